/-
  'met' of package brand: a call that may meet the machine's own panic (met$1 deferred, recover).
  'key' of package brand: which marks can be keys.
  Tables of package brand: none, New, find.
  (*value).own: the contract that print.sh has printed for function 56, turned at one spot: in the loop's round the names of the hypotheses ahead of the loop are cleared first (a later 'cases' would bring them back in front).
  'own' of package value, as a plain function: it comes to the same value wherever May admits it.
-/
import Derived.Test.YthkemcekcfccpaaBrandComparesR3M0
import Derived.Defers
import Derived.Recover
import Derived.Test.YthkemcekcfccpaaPBrandComparesx0
namespace Go.Proofs.Ythkemcekcfccpaa.PBrandCompares
open Go.RowKit Go.Proofs.YthkemcekcfccpaaW.PrintWords Go.Proofs.YthkemcekcfccpaaW.PrintLast Go.Proofs.YthkemcekcfccpaaW.PrintMore
open Go.Proofs.Ythkemcekcfccpaa.GBrandCompares
set_option linter.unusedVariables false
set_option linter.unusedSimpArgs false

theorem catch_idle (p : Addr) (w : World) :
    CallsD Try.prog 49 #[.pointer (some p)] .returning w fun e u' w' => e = .returned (.tuple #[]) ∧ u' = .returning ∧ w' = w := by
  refine callsD_of_wpS Try.func49 rfl fun c₀ cs hu => ?_
  apply wpS_seq
  apply wpS_region
  simp [wpOpsS, go_sem, recoverD, hu, Try.ntmps49, Exit.thenS]
  refine wpS_of_wp ?_
  rw [show #[Value.pointer (some p)] ++ ((Array.replicate 14 undef).setIfInBounds 3 Value.nilIface).setIfInBounds 0 Value.nilIface = #[Value.pointer (some p), .nilIface, undef, undef, .nilIface, undef, undef, undef, undef, undef, undef, undef, undef, undef, undef] from rfl]
  go_wp2
  cases c₀
  simp_all [bodyPostS, results, Try.results49]

theorem assert10 (v : Value) (w : World) : (Instr.typeAssert (.iface 10 v) 20 91 true).run Try.prog w = .ok (.tuple #[.iface 10 v, .bool true]) w := by kernel_rfl
theorem assert19 (v : Value) (w : World) : (Instr.typeAssert (.iface 19 v) 20 91 true).run Try.prog w = .ok (.tuple #[.iface 19 v, .bool true]) w := by kernel_rfl

theorem catch_panicking (p : Addr) (u : TypeId) (hu : u = 10 ∨ u = 19) (pv : Value) (older : List PanicEntry) (w : World) (hc : w.cell? p = some (.bool false)) (hz : w.frozen? p = false) :
    CallsD Try.prog 49 #[.pointer (some p)] (.panicking ({ v := .iface u pv, recovered := false } :: older)) w fun e u' w' =>
      e = .returned (.tuple #[]) ∧ u' = .panicking ({ v := .iface u pv, recovered := true } :: older) ∧ w' = w.setCell p (.bool true) := by
  have ha : (Instr.typeAssert (.iface u pv) 20 91 true).run Try.prog w = .ok (.tuple #[.iface u pv, .bool true]) w := by
    rcases hu with rfl | rfl
    · exact assert10 pv w
    · exact assert19 pv w
  clear hu
  refine callsD_of_wpS Try.func49 rfl fun c₀ cs hm => ?_
  apply wpS_seq
  apply wpS_region
  simp [wpOpsS, go_sem, recoverD, hm, Try.ntmps49, Exit.thenS]
  refine wpS_of_wp ?_
  rw [show #[Value.pointer (some p)] ++ ((Array.replicate 14 undef).setIfInBounds 3 (Value.iface u pv)).setIfInBounds 0 (Value.iface u pv) = #[Value.pointer (some p), .iface u pv, undef, undef, .iface u pv, undef, undef, undef, undef, undef, undef, undef, undef, undef, undef] from rfl]
  go_wp2
  cases c₀
  simp_all [bodyPostS, results, Try.results49]

theorem met_ok (g : FuncId) (caps : Array Value) (S : Nat → Prop) (R : World → Prop) (w : World) (hS : ∀ b, S b → b < w.heap.size) (hen : ∀ w, (callFunc g caps).run Try.prog w = .ok (.enter g caps) w)
    (h : Calls Try.prog g caps (w.alloc (.cells #[.bool false] 4)) fun e w' => e = .returned (.tuple #[]) ∧ Ex S (w.alloc (.cells #[.bool false] 4)) w' ∧ R w') :
    Calls Try.prog 30 #[.func (.func g) #[] caps] w fun e w' => e = .returned (.bool false) ∧ ∃ w1, R w1 ∧ Ex S (w.alloc (.cells #[.bool false] 4)) w1 ∧ w' = w1.setCell ⟨w.heap.size, 0, none⟩ (.bool false) := by
  have hmf : ∀ (fn : Fn) (first cap : Array Value) (w : World), (Instr.makeFunc fn first cap).run Try.prog w = .ok (.func fn first cap) w := fun _ _ _ _ => rfl
  have H := Aside0.mk h
  have HS := Aside0.mk hS
  clear h hS
  go_enter_defers Try.func30, Try.ntmps30
  go_wp2_with fail
  refine H.out.mono ?_
  rintro e w1 ⟨rfl, hx, hr⟩
  have HX := Aside0.mk hx
  have HR := Aside0.mk hr
  have HB := Aside0.mk (hx.blk (blk_new1 w _) (fun h => absurd (HS.out _ h) (Nat.lt_irrefl _)))
  clear hx hr
  have hc := (blk_cell HB.out 0).trans rfl
  have hf := blk_frozen HB.out 0
  have hl := lt_of_blk HB.out
  go_wp2
  refine leaves_cons (f := 49) (args := #[.pointer (some ⟨w.heap.size, 0, none⟩)]) (by simp) (by simp [go_sem]) ?_
  refine (catch_idle ⟨w.heap.size, 0, none⟩ _).mono ?_
  rintro e u' w'' ⟨rfl, rfl, rfl⟩
  simp [Leaves, settle, results, Try.results30, go_sem]
  rw [(blk_cell (blk_put HB.out 0 (.bool false) rfl) 0).trans rfl]
  exact ⟨_, rfl, rfl, w1, HR.out, HX.out, rfl⟩

theorem met_panic (g : FuncId) (caps : Array Value) (S : Nat → Prop) (R : World → Prop) (w : World) (hS : ∀ b, S b → b < w.heap.size) (hen : ∀ w, (callFunc g caps).run Try.prog w = .ok (.enter g caps) w)
    (h : Calls Try.prog g caps (w.alloc (.cells #[.bool false] 4)) fun e w' => (∃ u pv, (u = 10 ∨ u = 19) ∧ e = .panicked [{ v := .iface u pv, recovered := false }]) ∧ Ex S (w.alloc (.cells #[.bool false] 4)) w' ∧ R w') :
    Calls Try.prog 30 #[.func (.func g) #[] caps] w fun e w' => e = .returned (.bool true) ∧ ∃ w1, R w1 ∧ Ex S (w.alloc (.cells #[.bool false] 4)) w1 ∧ w' = w1.setCell ⟨w.heap.size, 0, none⟩ (.bool true) := by
  have hmf : ∀ (fn : Fn) (first cap : Array Value) (w : World), (Instr.makeFunc fn first cap).run Try.prog w = .ok (.func fn first cap) w := fun _ _ _ _ => rfl
  have H := Aside0.mk h
  have HS := Aside0.mk hS
  clear h hS
  go_enter_defers Try.func30, Try.ntmps30
  go_wp2_with fail
  refine H.out.mono ?_
  rintro e w1 ⟨⟨u, pv, hu, rfl⟩, hx, hr⟩
  have HU := Aside0.mk hu
  clear hu
  have HX := Aside0.mk hx
  have HR := Aside0.mk hr
  have HB := Aside0.mk (hx.blk (blk_new1 w _) (fun h => absurd (HS.out _ h) (Nat.lt_irrefl _)))
  clear hx hr
  have hc := (blk_cell HB.out 0).trans rfl
  have hf := blk_frozen HB.out 0
  have hl := lt_of_blk HB.out
  go_wp2
  refine leaves_cons (f := 49) (args := #[.pointer (some ⟨w.heap.size, 0, none⟩)]) (by simp) (by simp [go_sem]) ?_
  refine (catch_panicking ⟨w.heap.size, 0, none⟩ u HU.out pv [] _ hc hf).mono ?_
  rintro e u' w'' ⟨rfl, rfl, rfl⟩
  simp [Leaves, settle, results, Try.results30, go_sem]
  rw [(blk_cell (blk_put HB.out 0 (.bool true) rfl) 0).trans rfl]
  exact ⟨_, rfl, rfl, w1, HR.out, HX.out, rfl⟩

/-- how deep the model's == goes down is enough -/
theorem deep_enough {n : Nat} (h : n ≤ 16) : 2 * n + 2 ≤ Op.maxDepth := by
  show _ ≤ 10000
  omega

theorem eq_of {a b : Mk} {t1 t2 : TypeId} {u1 u2 : Value} {ev : Operand → Value} {o : Oper} {x y : Operand} (ha : a.deep ≤ 16) (h1 : a.val = .iface t1 u1) (h2 : b.val = .iface t2 u2) (ho : o.op = .binOp .eql 45 x y 45) (hx : ev x = .iface t1 u1) (hy : ev y = .iface t2 u2) (w : World) :
    (execOp ev o).run Try.prog w = (eqRes (a.cmp b) w).andThen fun b w => .ok (.value (.bool b)) w := by
  rw [run_eql ho hx hy, ← h1, ← h2, eq_marks a b _ _ (deep_enough ha)]

/-- Compare$1: the two marks' equality: 'true' -/
theorem same_marks (a b : Mk) (ha : a.deep ≤ 16) (ga gb gc : Nat) (w : World) (h1 : w.heap[ga]? = some (.cells #[a.val] 45 (0, 0))) (h2 : w.heap[gb]? = some (.cells #[b.val] 45 (0, 0))) (h3 : w.heap[gc]? = some (.cells #[.int .u8 0] 30 (0, 0))) (hc : a.cmp b = 1) :
    Calls Try.prog 31 #[.pointer (some ⟨ga, 0, none⟩), .pointer (some ⟨gb, 0, none⟩), .pointer (some ⟨gc, 0, none⟩)] w fun e w' => e = .returned (.tuple #[]) ∧ w' = w.setCell ⟨gc, 0, none⟩ (.int .u8 1) := by
  have hl1 := lt_of_blk h1
  have hl2 := lt_of_blk h2
  have hl3 := lt_of_blk h3
  have c1 := (blk_cell h1 0).trans rfl
  have c2 := (blk_cell h2 0).trans rfl
  have c3 := (blk_cell h3 0).trans rfl
  have f3 := blk_frozen h3 0
  clear h1 h2 h3
  obtain ⟨t1, u1, hu1⟩ := a.val_iface
  obtain ⟨t2, u2, hu2⟩ := b.val_iface
  rw [hu1] at c1
  rw [hu2] at c2
  have HU := Aside0.mk (And.intro hu1 hu2)
  have HC := Aside0.mk hc
  have HA := Aside0.mk ha
  clear hc ha hu1 hu2
  go_enter Try.func31, Try.ntmps31
  go_wp2_with (refine valueL (some 5) rfl rfl (.bool true) ((eq_of HA.out HU.out.1 HU.out.2 rfl rfl rfl _).trans (by rw [HC.out]; rfl)) ?_)
  first | refine bodyPost_ret (results_none rfl _ _ _) rfl ?_ | refine bodyPost_end (results_none rfl _ _ _) rfl ?_
  exact ⟨rfl, rfl⟩

/-- .. 'false' -/
theorem unlike_marks (a b : Mk) (ha : a.deep ≤ 16) (ga gb gc : Nat) (w : World) (h1 : w.heap[ga]? = some (.cells #[a.val] 45 (0, 0))) (h2 : w.heap[gb]? = some (.cells #[b.val] 45 (0, 0))) (hc : a.cmp b = 0) :
    Calls Try.prog 31 #[.pointer (some ⟨ga, 0, none⟩), .pointer (some ⟨gb, 0, none⟩), .pointer (some ⟨gc, 0, none⟩)] w fun e w' => e = .returned (.tuple #[]) ∧ w' = w := by
  have hl1 := lt_of_blk h1
  have hl2 := lt_of_blk h2
  have c1 := (blk_cell h1 0).trans rfl
  have c2 := (blk_cell h2 0).trans rfl
  clear h1 h2
  obtain ⟨t1, u1, hu1⟩ := a.val_iface
  obtain ⟨t2, u2, hu2⟩ := b.val_iface
  rw [hu1] at c1
  rw [hu2] at c2
  have HU := Aside0.mk (And.intro hu1 hu2)
  have HC := Aside0.mk hc
  have HA := Aside0.mk ha
  clear hc ha hu1 hu2
  go_enter Try.func31, Try.ntmps31
  go_wp2_with (refine valueL (some 5) rfl rfl (.bool false) ((eq_of HA.out HU.out.1 HU.out.2 rfl rfl rfl _).trans (by rw [HC.out]; rfl)) ?_)
  first | refine bodyPost_ret (results_none rfl _ _ _) rfl ?_ | refine bodyPost_end (results_none rfl _ _ _) rfl ?_
  exact ⟨rfl, rfl⟩

/-- .. the panic -/
theorem panic_marks (a b : Mk) (ha : a.deep ≤ 16) (ga gb gc : Nat) (w : World) (h1 : w.heap[ga]? = some (.cells #[a.val] 45 (0, 0))) (h2 : w.heap[gb]? = some (.cells #[b.val] 45 (0, 0))) (hc : a.cmp b = 2) :
    Calls Try.prog 31 #[.pointer (some ⟨ga, 0, none⟩), .pointer (some ⟨gb, 0, none⟩), .pointer (some ⟨gc, 0, none⟩)] w fun e w' => e = .panicked [{ v := .iface 10 (strVal "comparing uncomparable type brand.row"), recovered := false }] ∧ w' = w := by
  have hl1 := lt_of_blk h1
  have hl2 := lt_of_blk h2
  have c1 := (blk_cell h1 0).trans rfl
  have c2 := (blk_cell h2 0).trans rfl
  clear h1 h2
  obtain ⟨t1, u1, hu1⟩ := a.val_iface
  obtain ⟨t2, u2, hu2⟩ := b.val_iface
  rw [hu1] at c1
  rw [hu2] at c2
  have HU := Aside0.mk (And.intro hu1 hu2)
  have HC := Aside0.mk hc
  have HA := Aside0.mk ha
  clear hc ha hu1 hu2
  go_enter Try.func31, Try.ntmps31
  go_wp2_with (refine panicL (some 5) rfl rfl (.iface 10 (strVal "comparing uncomparable type brand.row")) ((eq_of HA.out HU.out.1 HU.out.2 rfl rfl rfl _).trans (by rw [HC.out]; rfl)) ?_)
  exact ⟨rfl, rfl, rfl⟩

end Go.Proofs.Ythkemcekcfccpaa.PBrandCompares

namespace Go.Proofs.Ythkemcekcfccpaa.PBrandCompares
open Go.RowKit Go.Proofs.YthkemcekcfccpaaW.PrintWords Go.Proofs.YthkemcekcfccpaaW.PrintLast Go.Proofs.YthkemcekcfccpaaW.PrintMore
open Go.Proofs.Ythkemcekcfccpaa.GBrandCompares
set_option linter.unusedVariables false
set_option linter.unusedSimpArgs false

theorem info3 : (Try.prog.info? 3).map (fun i => (i.zero, i.size, i.bytes)) = some (some (.int .i64 0), 1, 8) := by kernel_rfl

/-- a block written over -/
def setB (w : World) (r : Nat) (o : Obj) : World := { w with heap := w.heap.setIfInBounds r o }
theorem setB_blk {w : World} {r : Nat} {o o' : Obj} (h : w.heap[r]? = some o) : (setB w r o').heap[r]? = some o' := (Go.MapKept.heap_set h).1
theorem setB_ne (w : World) (r : Nat) (o : Obj) {b : Nat} (h : b ≠ r) : (setB w r o).heap[b]? = w.heap[b]? := by simp [setB, Ne.symm h]
theorem ex_setB {S : Nat → Prop} {w w1 : World} (h : Ex S w w1) {r : Nat} (hr : S r ∨ w.heap.size ≤ r) (o : Obj) : Ex S w (setB w1 r o) :=
  h.trans (S2 := fun b => b = r) ⟨rfl, rfl, rfl, by simp [setB], fun b _ hn => setB_ne w1 r o hn⟩ (fun b hb => hb ▸ hr)

theorem make_map (t : TypeId) (w : World) : (Instr.makeMap t none).run Try.prog w = .ok (.map (some w.heap.size)) (w.alloc (.map #[] 0)) := by
  simp [Instr.makeMap]

theorem run_entry0 {w : World} {r clock : Nat} {a : Mk} (t e : TypeId) (ht : Try.prog.underlying t = some (.map 45 e)) {i : TypeInfo} (hi : Try.prog.info? e = some i) {z : Value} (hz : i.zero = some z) (hb : w.heap[r]? = some (.map #[] clock)) (ha : Key a) :
    (Instr.mapEntry t (.map (some r)) a.val).run Try.prog w = .ok (.tuple #[z, goInt clock]) (setB w r (.map #[{ key := a.val, val := z, born := clock }] (clock + 1))) := by
  unfold Instr.mapEntry
  rw [Sem.run_bind, run_underlying ht, Result.andThen_ok]
  simp only [Sem.run_bind, Go.MapKept.run_getObj_map hb, Result.andThen_ok, Sem.run_pure, check_ok a ha, find_key a ha [] [] _ (by simp) rfl]
  simp [posMk, zeroValue, typeInfo, hi, hz, Result.andThen, Go.MapKept.run_setObj_map _ hb, setB]

theorem run_estore0 {w : World} {r clock : Nat} {k z : Value} (t : TypeId) (x : Value) (hb : w.heap[r]? = some (.map #[{ key := k, val := z, born := 0 }] clock)) :
    (Instr.entryStore t (.map (some r)) (.int .i64 0) x).run Try.prog w = .ok () (setB w r (.map #[{ key := k, val := x, born := 0 }] clock)) := by
  unfold Instr.entryStore
  have h0 : (asInt (.int .i64 0)).run Try.prog w = .ok 0 w := rfl
  simp only [Sem.run_bind, Go.MapKept.run_getObj_map hb, Result.andThen_ok, h0, Sem.run_pure]
  have hf : Array.findIdx? (fun e : MapEntry => ((e.born : Int) == 0)) #[{ key := k, val := z, born := 0 }] = some 0 := by simp [List.findIdx?_cons]
  rw [hf]
  exact Go.MapKept.run_setObj_map _ hb

/-- at an empty map: nothing is found; where an entry of zero has been made: zero -/
theorem run_look0 {w : World} {r clock : Nat} {a : Mk} (hb : w.heap[r]? = some (.map #[] clock)) (ha : Key a) :
    (Instr.lookup 93 (.map (some r)) a.val false).run Try.prog w = .ok (.int .i64 0) w := by
  obtain ⟨i0, hi0, hz0, _, _⟩ := info_parts info3
  exact run_lookup 93 3 Try.underlying93 hi0 hz0 hb ha (ms := []) (by simp) rfl false
theorem run_look1 {w : World} {r clock : Nat} {a : Mk} (hb : w.heap[r]? = some (.map #[{ key := a.val, val := .int .i64 0, born := 0 }] clock)) (ha : Key a) :
    (Instr.lookup 93 (.map (some r)) a.val false).run Try.prog w = .ok (.int .i64 0) w := by
  obtain ⟨i0, hi0, hz0, _, _⟩ := info_parts info3
  rw [run_lookup 93 3 Try.underlying93 hi0 hz0 hb ha (ms := [a]) (by simpa using ha) rfl false]
  have hp : posMk a [a] = some 0 := by
    unfold posMk
    rw [List.findIdx?_cons]
    rcases cmp_keys a a ha.1 ha.1 with ⟨h, _⟩ | ⟨_, h⟩
    · rw [h]; rfl
    · exact absurd rfl h
  rw [hp]
  rfl
theorem run_lookP {w : World} {r clock : Nat} {a : Mk} (hb : w.heap[r]? = some (.map #[] clock)) (ha : a.keys = false) (hd : a.deep ≤ 16) :
    (Instr.lookup 93 (.map (some r)) a.val false).run Try.prog w = .halt (.panic (.iface 19 (.agg #[typeHandle Try.prog 103]))) w := by
  unfold Instr.lookup
  rw [Sem.run_bind, run_underlying Try.underlying93, Result.andThen_ok]
  simp only [Sem.run_bind, Go.MapKept.run_getObj_map hb, Result.andThen_ok, Sem.run_pure, check_marks a _ 10000 w (by omega : 2 * a.deep + 2 ≤ 10000), checkRes, ha]
  rfl
theorem run_entryP {w : World} {r clock : Nat} {a : Mk} (hb : w.heap[r]? = some (.map #[] clock)) (ha : a.keys = false) (hd : a.deep ≤ 16) :
    (Instr.mapEntry 93 (.map (some r)) a.val).run Try.prog w = .halt (.panic (.iface 10 (strVal "hash of unhashable type brand.row"))) w := by
  unfold Instr.mapEntry
  rw [Sem.run_bind, run_underlying Try.underlying93, Result.andThen_ok]
  simp only [Sem.run_bind, Go.MapKept.run_getObj_map hb, Result.andThen_ok, Sem.run_pure, check_marks a _ 10000 w (by omega : 2 * a.deep + 2 ≤ 10000), checkRes, ha]
  rfl

theorem keyf_ok (a : Mk) (ha : Key a) (ga : Nat) (w : World) (h1 : w.heap[ga]? = some (.cells #[a.val] 45 (0, 0))) :
    Calls Try.prog 51 #[.pointer (some ⟨ga, 0, none⟩)] w fun e w' => e = .returned (.tuple #[]) ∧ Ex (fun _ => False) w w' := by
  have hl1 := lt_of_blk h1
  have c1 := (blk_cell h1 0).trans rfl
  have hM : (w.alloc (.map #[] 0)).drew.heap[w.heap.size]? = some (.map #[] 0) := blk_drew (blk_new1 w _)
  obtain ⟨i0, hi0, hz0, _, _⟩ := info_parts info3
  have hlk := run_look0 hM ha
  have hen := run_entry0 93 3 Try.underlying93 hi0 hz0 hM ha
  have hlk2 := run_look1 (setB_blk (o' := .map #[{ key := a.val, val := .int .i64 0, born := 0 }] 1) hM) ha
  have hst := run_estore0 93 (.int .i64 1) (setB_blk (o' := .map #[{ key := a.val, val := .int .i64 0, born := 0 }] 1) hM)
  have hcl : ∀ i, (setB (w.alloc (.map #[] 0)).drew w.heap.size (.map #[{ key := a.val, val := .int .i64 0, born := 0 }] 1)).cell? ⟨ga, i, none⟩ = w.cell? ⟨ga, i, none⟩ := fun i =>
    (ex_setB (((Ex.refl (fun _ => False) w).alloc _).drew) (.inr (Nat.le_refl _)) _).cell hl1 (fun h => h) i
  have hmk := make_map
  obtain ⟨t1, u1, hu1⟩ := a.val_iface
  rw [hu1] at c1 hlk hlk2 hen hst hcl
  have HX := Aside0.mk (ex_setB (ex_setB (((Ex.refl (fun _ => False) w).alloc (.map #[] 0)).drew) (.inr (Nat.le_refl _)) (.map #[{ key := a.val, val := .int .i64 0, born := 0 }] 1)) (.inr (Nat.le_refl _)) (.map #[{ key := a.val, val := .int .i64 1, born := 0 }] 1))
  rw [hu1] at HX
  clear ha hu1 hi0 hz0 h1 hM
  generalize hW2 : setB (w.alloc (.map #[] 0)).drew w.heap.size (.map #[{ key := .iface t1 u1, val := .int .i64 0, born := 0 }] 1) = W2 at hlk2 hen hst hcl HX
  generalize hW3 : setB W2 w.heap.size (.map #[{ key := .iface t1 u1, val := .int .i64 1, born := 0 }] 1) = W3 at hst HX
  clear hW2 hW3
  go_enter Try.func51, Try.ntmps51
  go_wp2
  go_region
  all_goals
    refine bodyPost_end (results_none rfl _ _ _) rfl ?_
    exact ⟨rfl, HX.out⟩

/-- a mark that can be no key: a panic of the machine's own, of one kind or of the other -/
theorem keyf_no (a : Mk) (ha : a.keys = false) (hd : a.deep ≤ 16) (ga : Nat) (w : World) (h1 : w.heap[ga]? = some (.cells #[a.val] 45 (0, 0))) :
    Calls Try.prog 51 #[.pointer (some ⟨ga, 0, none⟩)] w fun e w' => (e = .panicked [{ v := .iface 19 (.agg #[typeHandle Try.prog 103]), recovered := false }] ∨ e = .panicked [{ v := .iface 10 (strVal "hash of unhashable type brand.row"), recovered := false }]) ∧ Ex (fun _ => False) w w' := by
  have hl1 := lt_of_blk h1
  have c1 := (blk_cell h1 0).trans rfl
  have hM : (w.alloc (.map #[] 0)).drew.heap[w.heap.size]? = some (.map #[] 0) := blk_drew (blk_new1 w _)
  have hlk := run_lookP hM ha hd
  have hen := run_entryP hM ha hd
  have hmk := make_map
  obtain ⟨t1, u1, hu1⟩ := a.val_iface
  rw [hu1] at c1 hlk hen
  have HX := Aside0.mk (((Ex.refl (fun _ => False) w).alloc (.map #[] 0)).drew)
  clear ha hu1 h1 hM
  generalize Value.agg #[typeHandle Try.prog 103] = hv at hlk ⊢
  go_enter Try.func51, Try.ntmps51
  go_wp2
  refine start_ (n := 7) (S := Any) (ds := [0, 1, 2, 3, 4, 5, 6]) #[false, false, false, false, false, false, false] (by kernel_rfl) (by rfl) (by rfl) trivial (fun _ => ?_)
  refine pure_ (i := 0) (N := some 3) (v := .map (some w.heap.size)) (a' := _) #[true, false, false, false, false, false, false] rfl rfl (by kernel_rfl) (fun _ _ _ h => h) (Or.inl ⟨by rfl, ?_⟩) rfl ?_
  · intro w'
    rfl
  refine stepV (i := 1) (N := some 4) #[true, true, false, false, false, false, false] rfl (by kernel_rfl) (by decide) rfl (by rfl) (.iface t1 u1) (w1 := (w.alloc (.map #[] 0)).drew) (by go_simp) rfl ?_
  refine stepPP (i := 2) (j := 4) rfl rfl (by kernel_rfl) (by decide) (by decide) (by rfl) (by rfl) _ _ (exec_halt (s := Instr.lookup 93 (.map (some w.heap.size)) (.iface t1 u1) false) rfl hlk) (exec_halt (s := Instr.mapEntry 93 (.map (some w.heap.size)) (.iface t1 u1)) rfl hen) ?_ ?_
  · exact ⟨rfl, .inl rfl, HX.out⟩
  · exact ⟨rfl, .inr rfl, HX.out⟩

set_option maxHeartbeats 400000 in
theorem key_yes (a : Mk) (ha : Key a) (w : World) :
    Calls Try.prog 36 #[a.val] w fun e w' => e = .returned (.bool true) ∧ Ex (fun _ => False) w w' := by
  have hmf : ∀ (fn : Fn) (first cap : Array Value) (w : World), (Instr.makeFunc fn first cap).run Try.prog w = .ok (.func fn first cap) w := fun _ _ _ _ => rfl
  have HA := Aside0.mk ha
  obtain ⟨t1, u1, hu1⟩ := a.val_iface
  rw [hu1]
  have HU := Aside0.mk hu1
  clear ha hu1
  go_enter Try.func36, Try.ntmps36
  go_wp2_with fail
  refine Calls.mono (met_ok 51 _ (fun _ => False) (fun _ => True) _ (fun _ h => h.elim) (fun w => enters_ Try.func51 (by kernel_rfl) rfl _ w) ?_) ?_
  · refine (keyf_ok a HA.out w.heap.size _ (by rw [HU.out]; exact blk_alloc (blk_new1 _ _) _)).mono ?_
    rintro e w' ⟨rfl, hx⟩
    exact ⟨rfl, hx, trivial⟩
  rintro e w3 ⟨rfl, w4, _, hx, rfl⟩
  have HX := Aside0.mk ((((((Ex.refl (fun _ => False) w).alloc _).alloc _).trans hx (fun _ h => h.elim))).set (p := ⟨w.heap.size + 1, 0, none⟩) (.inr (Nat.le_succ _)) (.bool false))
  clear hx
  go_wp2
  go_ret
  exact ⟨rfl, HX.out⟩

set_option maxHeartbeats 400000 in
theorem key_no (a : Mk) (ha : a.keys = false) (hd : a.deep ≤ 16) (w : World) :
    Calls Try.prog 36 #[a.val] w fun e w' => e = .returned (.bool false) ∧ Ex (fun _ => False) w w' := by
  have hmf : ∀ (fn : Fn) (first cap : Array Value) (w : World), (Instr.makeFunc fn first cap).run Try.prog w = .ok (.func fn first cap) w := fun _ _ _ _ => rfl
  have HA := Aside0.mk (And.intro ha hd)
  obtain ⟨t1, u1, hu1⟩ := a.val_iface
  rw [hu1]
  have HU := Aside0.mk hu1
  clear ha hu1 hd
  go_enter Try.func36, Try.ntmps36
  go_wp2_with fail
  refine Calls.mono (met_panic 51 _ (fun _ => False) (fun _ => True) _ (fun _ h => h.elim) (fun w => enters_ Try.func51 (by kernel_rfl) rfl _ w) ?_) ?_
  · refine (keyf_no a HA.out.1 HA.out.2 w.heap.size _ (by rw [HU.out]; exact blk_alloc (blk_new1 _ _) _)).mono ?_
    rintro e w' ⟨h, hx⟩
    refine ⟨?_, hx, trivial⟩
    rcases h with rfl | rfl
    · exact ⟨19, _, .inr rfl, rfl⟩
    · exact ⟨10, _, .inl rfl, rfl⟩
  rintro e w3 ⟨rfl, w4, _, hx, rfl⟩
  have HX := Aside0.mk ((((((Ex.refl (fun _ => False) w).alloc _).alloc _).trans hx (fun _ h => h.elim))).set (p := ⟨w.heap.size + 1, 0, none⟩) (.inr (Nat.le_succ _)) (.bool true))
  clear hx
  go_wp2
  go_ret
  exact ⟨rfl, HX.out⟩

/-- key -/
theorem key_calls (a : Mk) (hd : a.deep ≤ 16) (w : World) : Calls Try.prog 36 #[a.val] w fun e w' => e = .returned (.bool a.keys) ∧ Ex (fun _ => False) w w' := by
  cases h : a.keys with
  | true => exact key_yes a ⟨h, hd⟩ w
  | false => exact key_no a h hd w

end Go.Proofs.Ythkemcekcfccpaa.PBrandCompares

namespace Go.Proofs.Ythkemcekcfccpaa.PBrandCompares
open Go.RowKit Go.Proofs.YthkemcekcfccpaaW.PrintWords Go.Proofs.YthkemcekcfccpaaW.PrintLast Go.Proofs.YthkemcekcfccpaaW.PrintMore
open Go.Proofs.Ythkemcekcfccpaa.GBrandCompares
set_option linter.unusedVariables false
set_option linter.unusedSimpArgs false

/-- a map against none -/
theorem map_some (mb : Nat) (w : World) : (binOp .eql 63 (.map (some mb)) (.map none)).run Try.prog w = .ok (.bool false) w := by
  have h : ∀ d : Nat, (Op.equalIn (d + 1) 63 (.map (some mb)) (.map none)).run Try.prog w = .ok false w := fun d => by simp [Op.equalIn, run_underlying Try.underlying63]
  simp only [binOp, Op.equal, Sem.run_bind]
  rw [show Op.maxDepth = 9999 + 1 from rfl, h]
  rfl
theorem map_none (w : World) : (binOp .eql 63 (.map none) (.map none)).run Try.prog w = .ok (.bool true) w := by
  have h : ∀ d : Nat, (Op.equalIn (d + 1) 63 (.map none) (.map none)).run Try.prog w = .ok true w := fun d => by simp [Op.equalIn, run_underlying Try.underlying63]
  simp only [binOp, Op.equal, Sem.run_bind]
  rw [show Op.maxDepth = 9999 + 1 from rfl, h]
  rfl

theorem none_nil (w : World) : Calls Try.prog 37 #[.pointer none] w fun e w' => e = .returned (.bool true) ∧ w' = w := by
  go_enter Try.func37, Try.ntmps37
  go_wp2
  go_ret
  exact ⟨rfl, rfl⟩

theorem none_no (g mb : Nat) (b c : Value) (w : World) (h : w.heap[g]? = some (.cells #[.map (some mb), b, c] 66 (0, 0))) : Calls Try.prog 37 #[.pointer (some ⟨g, 0, none⟩)] w fun e w' => e = .returned (.bool false) ∧ w' = w := by
  have hl := lt_of_blk h
  have c0 := (blk_cell h 0).trans rfl
  clear h
  have hq := map_some mb
  go_enter Try.func37, Try.ntmps37
  go_wp2
  go_ret
  exact ⟨rfl, rfl⟩

theorem none_unmade (g : Nat) (b c : Value) (w : World) (h : w.heap[g]? = some (.cells #[.map none, b, c] 66 (0, 0))) : Calls Try.prog 37 #[.pointer (some ⟨g, 0, none⟩)] w fun e w' => e = .returned (.bool true) ∧ w' = w := by
  have hl := lt_of_blk h
  have c0 := (blk_cell h 0).trans rfl
  clear h
  have hq := map_none
  go_enter Try.func37, Try.ntmps37
  go_wp2
  go_ret
  exact ⟨rfl, rfl⟩

theorem new_calls (w : World) : Calls Try.prog 14 #[] w fun e w' => e = .returned (.pointer (some ⟨w.heap.size + 2, 0, none⟩)) ∧
    w' = ((w.alloc (.map #[] 0)).alloc (.map #[] 0)).alloc (.cells #[.map (some w.heap.size), .map (some (w.heap.size + 1)), .int .i64 0] 66) := by
  have hmk := make_map
  go_enter Try.func14, Try.ntmps14
  go_wp2
  go_ret
  exact ⟨rfl, rfl⟩

set_option maxHeartbeats 400000 in
theorem find_arg (x : S27) (A : Option Addr) (c : Nat) (g mb : Nat) (b d : Value) (w : World) (ok : Nat → Prop) (h : w.heap[g]? = some (.cells #[.map (some mb), b, d] 66 (0, 0))) (hF : Kd.F k27 w ok A x.f3.length x.f3) (hm : mayV x = false) :
    Calls Try.prog 39 #[.pointer (some ⟨g, 0, none⟩), .agg #[.int .u8 x.f0, .int .i64 x.f1, .string x.f2, .slice A x.f3.length c, .int .i64 x.f4]] w fun e w' => e = .returned (.tuple #[.nilIface, .int .i64 2]) ∧ Ex (fun _ => False) w w' := by
  have HG := Aside0.mk h
  have HF := Aside0.mk hF
  have HM := Aside0.mk hm
  clear h hF hm
  go_enter Try.func39, Try.ntmps39
  go_wp2_with fail
  refine (none_no g mb b d _ (blk_alloc HG.out _)).mono ?_
  rintro e w1 ⟨rfl, rfl⟩
  go_wp2_with fail
  refine (of_no x A c _ ok (Kd.F_alloc HF.out _) HM.out).mono ?_
  rintro e w1 ⟨rfl, hx1⟩
  have HX1 := Aside0.mk (((Ex.refl (fun _ => False) w).alloc _).trans hx1 (fun _ h => h.elim))
  clear hx1
  go_wp2
  go_ret2
  exact ⟨rfl, HX1.out⟩

set_option maxHeartbeats 400000 in
theorem find_key' (x : S27) (A : Option Addr) (c : Nat) (g mb : Nat) (b d : Value) (w : World) (ok : Nat → Prop) (h : w.heap[g]? = some (.cells #[.map (some mb), b, d] 66 (0, 0))) (hF : Kd.F k27 w ok A x.f3.length x.f3) (hm : mayV x = true) :
    Calls Try.prog 39 #[.pointer (some ⟨g, 0, none⟩), .agg #[.int .u8 x.f0, .int .i64 x.f1, .string x.f2, .slice A x.f3.length c, .int .i64 x.f4]] w fun e w' => ∃ m : Mk, MarkOf x m ∧ m.deep ≤ 16 ∧ Ex (fun _ => False) w w' ∧
      e = .returned (.tuple (if m.keys then #[m.val, .int .i64 0] else #[.nilIface, .int .i64 40])) := by
  have HG := Aside0.mk h
  have HF := Aside0.mk hF
  have HM := Aside0.mk hm
  clear h hF hm
  go_enter Try.func39, Try.ntmps39
  go_wp2_with fail
  refine (none_no g mb b d _ (blk_alloc HG.out _)).mono ?_
  rintro e w1 ⟨rfl, rfl⟩
  go_wp2_with fail
  refine (of_yes x A c _ ok (Kd.F_alloc HF.out _) HM.out).mono ?_
  rintro e w1 ⟨m, h1, h2, rfl, hx1⟩
  have HX1 := Aside0.mk (((Ex.refl (fun _ => False) w).alloc _).trans hx1 (fun _ h => h.elim))
  have HH := Aside0.mk (And.intro h1 h2)
  obtain ⟨t1, u1, hu1⟩ := m.val_iface
  have HK := Aside0.mk (key_calls m h2)
  rw [hu1]
  rw [hu1] at HK
  have HU := Aside0.mk hu1
  clear hx1 h1 h2 hu1
  go_wp2_with fail
  refine (HK.out _).mono ?_
  rintro e w2 ⟨rfl, hx2⟩
  have HX2 := Aside0.mk (HX1.out.trans hx2 (fun _ h => h.elim))
  clear hx2
  cases hk : m.keys with
  | true =>
    have HKK := Aside0.mk hk
    clear hk
    go_wp2
    go_ret2
    exact ⟨m, HH.out.1, HH.out.2, HX2.out, by rw [HKK.out, HU.out]; rfl⟩
  | false =>
    have HKK := Aside0.mk hk
    clear hk
    go_wp2
    go_ret2
    exact ⟨m, HH.out.1, HH.out.2, HX2.out, by rw [HKK.out]; rfl⟩

end Go.Proofs.Ythkemcekcfccpaa.PBrandCompares

namespace Go.Proofs.Ythkemcekcfccpaa.PBrandCompares
open Go.RowKit Go.Proofs.YthkemcekcfccpaaW.PrintWords Go.Proofs.YthkemcekcfccpaaW.PrintLast Go.Proofs.YthkemcekcfccpaaW.PrintMore
attribute [local go_sem] max2_int min2_int max_two min_two max_three min_three max_four min_four   -- for this text's walks alone
set_option linter.unusedVariables false
set_option linter.unusedSimpArgs false

-- NOT PRINTED: function 55 (value_left_take)

-- NOT PRINTED: function 52 (value_measure)

-- NOT PRINTED: function 38 (value_May)

-- NOT PRINTED: function 41 (brand_mark)

-- NOT PRINTED: function 18 (brand_Of)

-- NOT PRINTED: function 30 (brand_met)

-- NOT PRINTED: function 9 (brand_Compare)

-- NOT PRINTED: function 14 (brand_New)

-- NOT PRINTED: function 37 (brand_Table_none)

-- NOT PRINTED: function 36 (brand_key)

-- NOT PRINTED: function 39 (brand_Table_find)

/-! ### value_own: function 56 -/
mutual
def value_own.l0 : Nat → List (S27) → List (S27) → Int → Int → Int → Int → ByteArray → List (S27) → Int → Option (Int × Int × ByteArray × (List (S27)) × Int)
  | 0, _, _, _, _, _, _, _, _, _ => none
  | k + 1, x3, x17, x18, x19, x114000, x114001, x114002, x114003, x114004 => if x19 < x18 then (if 0 ≤ x19 then (if x19 < (x17.length : Int) then ((value_own.f k ((rd_T27 x17 x19).f0) ((rd_T27 x17 x19).f1) ((rd_T27 x17 x19).f2) ((rd_T27 x17 x19).f3) ((rd_T27 x17 x19).f4)).bind fun bt120 => (if x19 < (x3.length : Int) then (value_own.l0 k (x3.set (x19 : Int).toNat (⟨bt120.1, bt120.2.1, bt120.2.2.1, bt120.2.2.2.1, bt120.2.2.2.2⟩ : S27)) x17 x18 (wrap64 (x19 + 1)) x114000 x114001 x114002 x114003 x114004) else (none))) else (none)) else (none)) else (some (x114000, x114001, x114002, x3, x114004))
def value_own.f : Nat → Int → Int → ByteArray → List (S27) → Int → Option (Int × Int × ByteArray × (List (S27)) × Int)
  | 0, _, _, _, _, _ => none
  | k + 1, a0_0, a0_1, a0_2, l0_3, a0_4 => if (l0_3.length : Int) = 0 then (some (a0_0, a0_1, a0_2, ([] : List (S27)), a0_4)) else (if 0 ≤ (l0_3.length : Int) then (if ((l0_3.length : Int) : Int).toNat ≤ 4398046511104 then (value_own.l0 k (List.replicate ((l0_3.length : Int) : Int).toNat z27) l0_3 (l0_3.length : Int) 0 a0_0 a0_1 a0_2 l0_3 a0_4) else (none)) else (none))
end
theorem value_own.mono_l : ∀ k, (∀ y0 y1 y2 y3 y4, LeO (value_own.f k y0 y1 y2 y3 y4) (value_own.f (k + 1) y0 y1 y2 y3 y4)) ∧ (∀ y0 y1 y2 y3 y4 y5 y6 y7 y8, LeO (value_own.l0 k y0 y1 y2 y3 y4 y5 y6 y7 y8) (value_own.l0 (k + 1) y0 y1 y2 y3 y4 y5 y6 y7 y8))
  | 0 => ⟨fun _ _ _ _ _ r h => by simp [value_own.f] at h, fun _ _ _ _ _ _ _ _ _ r h => by simp [value_own.l0] at h⟩
  | k + 1 => by
    obtain ⟨ih0, ih1⟩ := value_own.mono_l k
    refine ⟨?_, ?_⟩
    · intro y0 y1 y2 y3 y4
      unfold value_own.f
      repeat' first
      | (with_reducible exact ih0 _ _ _ _ _)
      | (with_reducible exact ih1 _ _ _ _ _ _ _ _ _)
      | (with_reducible exact LeO.refl _)
      | (with_reducible exact LeO.none _)
      | (with_reducible refine LeO.ite ?_ ?_)
      | (with_reducible refine LeO.bind ?_ (fun _ => ?_))
      | exact ih0 _ _ _ _ _
      | exact ih1 _ _ _ _ _ _ _ _ _
      | exact LeO.none _
      | refine LeO.ite ?_ ?_
      | refine LeO.bind ?_ (fun _ => ?_)
    · intro y0 y1 y2 y3 y4 y5 y6 y7 y8
      unfold value_own.l0
      repeat' first
      | (with_reducible exact ih0 _ _ _ _ _)
      | (with_reducible exact ih1 _ _ _ _ _ _ _ _ _)
      | (with_reducible exact LeO.refl _)
      | (with_reducible exact LeO.none _)
      | (with_reducible refine LeO.ite ?_ ?_)
      | (with_reducible refine LeO.bind ?_ (fun _ => ?_))
      | exact ih0 _ _ _ _ _
      | exact ih1 _ _ _ _ _ _ _ _ _
      | exact LeO.none _
      | refine LeO.ite ?_ ?_
      | refine LeO.bind ?_ (fun _ => ?_)
theorem value_own.mono : ∀ a0 a1 a2 a3 a4 k, LeO (value_own.f k a0 a1 a2 a3 a4) (value_own.f (k + 1) a0 a1 a2 a3 a4) := by
  intro a0 a1 a2 a3 a4 k
  obtain ⟨ih0, ih1⟩ := value_own.mono_l k
  exact ih0 a0 a1 a2 a3 a4
set_option maxHeartbeats 8000000 in
set_option maxRecDepth 100000 in
theorem value_own.calls (k : Nat) : ∀ (a0_0 : Int) (a0_1 : Int) (a0_2 : ByteArray) (P0_3_ : Nat → Prop) (A0_3 : Option Addr) (c0_3 : Nat) (l0_3 : List (S27)) (a0_4 : Int) (r1 : Int) (r2 : Int) (r3 : ByteArray) (r4 : List (S27)) (r5 : Int) (w : World) (hs0_3 : Kd.V k27 27 w w.heap.size (fun k_ => P0_3_ k_) (.slice A0_3 l0_3.length c0_3) l0_3) (h : value_own.f k a0_0 a0_1 a0_2 l0_3 a0_4 = some (r1, r2, r3, r4, r5)),
    Calls Try.prog 56 #[.agg #[.int .u8 a0_0, .int .i64 a0_1, .string a0_2, .slice A0_3 l0_3.length c0_3, .int .i64 a0_4]] w fun e w' => ∃ v3_ : Value, e = .returned (.agg #[.int .u8 r1, .int .i64 r2, .string r3, v3_, .int .i64 r5]) ∧ Kd.R k27 27 w' w.heap.size (fun k_ => (w.heap.size ≤ k_)) v3_ r4 ∧ Below w.heap.size w w' := by
  induction k using Nat.strongRecOn with
  | _ k ih =>
  intro a0_0 a0_1 a0_2 P0_3_ A0_3 c0_3 l0_3 a0_4 r1 r2 r3 r4 r5 w hs0_3 h
  cases k with
  | zero => exact absurd h (by simp [value_own.f])
  | succ k =>
  simp only [value_own.f] at h
  have hu27 := Try.underlying27
  have HO0_3 := Aside0.mk (show Kd.V k27 27 w w.heap.size (fun k_ => (P0_3_ k_ ∨ w.heap.size ≤ k_)) (.slice A0_3 l0_3.length c0_3) l0_3 from Kd.V_mono hs0_3 (fun k_ hk => .inl hk))
  have HB := Aside0.mk (Below.refl w.heap.size w)
  have H : (if (l0_3.length : Int) = 0 then (some (a0_0, a0_1, a0_2, ([] : List (S27)), a0_4)) else (if 0 ≤ (l0_3.length : Int) then (if ((l0_3.length : Int) : Int).toNat ≤ 4398046511104 then (value_own.l0 k (List.replicate ((l0_3.length : Int) : Int).toNat z27) l0_3 (l0_3.length : Int) 0 a0_0 a0_1 a0_2 l0_3 a0_4) else (none)) else (none))) = some (r1, r2, r3, r4, r5) := h
  clear h
  by_cases c2 : (l0_3.length : Int) = 0
  · rw [if_pos c2] at H
    have c2b0 : ((l0_3.length : Int) == 0) = true := beq_iff_eq.mpr c2
    have c2b1 : ((l0_3.length : Int) != 0) = false := bne_eq_false_iff_eq.mpr c2
    clear c2
    simp only [Option.some.injEq, Prod.mk.injEq] at H
    obtain ⟨rfl, rfl, rfl, rfl, rfl⟩ := H
    go_enter Try.func56, Try.ntmps56
    go_wp2_with (first | ((with_reducible refine gate_dst (N := 1) rfl ?_); refine box_event ?hg (N := 1) ?hd (cs := #[.int .u8 a0_0, .int .i64 a0_1, .string a0_2, .slice A0_3 l0_3.length c0_3, .int .i64 a0_4]) (t := 27) ?hr ?_; (case hd => rfl); (case hg => rfl); (case hr => first | (go_simp; done) | (go_simp; rfl)); intro gb113 hg w3 hbox hb; have n0_ := Aside0.mk (Kd.V_below (Kd.V_elderB (by (with_reducible repeat (first | apply Kd.V_alloc | apply Kd.V_drewN | apply Kd.V_drew)); exact HO0_3.out) gb113 (Nat.le_of_eq hg.symm)) hb); have n1_ := Aside0.mk (below_step (by repeat (first | (with_reducible first | exact HB.out | apply below_alloc | apply pw_below_drewN | apply below_drew1) | exact HB.out)) hb); have n2_ := Aside0.mk (hbox); have n3_ := Aside0.mk ((by rw [hg]; exact (below_size (by repeat (first | (with_reducible first | exact HB.out | apply below_alloc | apply pw_below_drewN | apply below_drew1) | exact HB.out))) : w.heap.size ≤ gb113)); have n4_ := Aside0.mk ((by rw [hg]; exact (below_size (by repeat (first | (with_reducible first | exact HB.out | apply below_alloc | apply pw_below_drewN | apply below_drew1) | exact HB.out))) : w.heap.size ≤ gb113)); clear HO0_3; clear HB; have HO0_3 := n0_; have HB := n1_; have BK113 := n2_; have GW113 := n3_; have GE113 := n4_; clear n0_ n1_ n2_ n3_ n4_; clear hb hbox hg) | ((with_reducible refine gate_dst (N := 2) rfl ?_); refine box_event ?hg (N := 2) ?hd (cs := #[.int .u8 0, .int .i64 0, .string (⟨#[]⟩ : ByteArray), .slice none 0 0, .int .i64 0]) (t := 27) ?hr ?_; (case hd => rfl); (case hg => rfl); (case hr => first | (go_simp; done) | (go_simp; rfl)); intro gb114 hg w4 hbox hb; have n0_ := Aside0.mk (Kd.V_below (Kd.V_elderB (by (with_reducible repeat (first | apply Kd.V_alloc | apply Kd.V_drewN | apply Kd.V_drew)); exact HO0_3.out) gb114 (Nat.le_of_eq hg.symm)) hb); have n1_ := Aside0.mk (blk_below (g := gb113) (o := .cells #[.int .u8 a0_0, .int .i64 a0_1, .string a0_2, .slice A0_3 l0_3.length c0_3, .int .i64 a0_4] 27 (0, 0)) (by (with_reducible repeat (first | refine blk_drewN ?_ _ | refine blk_drew ?_ | refine blk_alloc ?_ _)); exact BK113.out) hb); have n2_ := Aside0.mk (below_step (by repeat (first | (with_reducible first | exact HB.out | apply below_alloc | apply pw_below_drewN | apply below_drew1 | refine below_set ?_ GE113.out) | exact HB.out)) hb); have n3_ := Aside0.mk (hbox); have n4_ := Aside0.mk ((by rw [hg]; exact (below_size (by repeat (first | (with_reducible first | exact HB.out | apply below_alloc | apply pw_below_drewN | apply below_drew1 | refine below_set ?_ GE113.out) | exact HB.out))) : w.heap.size ≤ gb114)); have n5_ := Aside0.mk ((by rw [hg]; exact (below_size (by repeat (first | (with_reducible first | exact HB.out | apply below_alloc | apply pw_below_drewN | apply below_drew1 | refine below_set ?_ GE113.out) | exact HB.out))) : w.heap.size ≤ gb114)); have n6_ := Aside0.mk ((by rw [hg]; exact Nat.ne_of_lt (blk_lt (g := gb113) (o := .cells #[.int .u8 a0_0, .int .i64 a0_1, .string a0_2, .slice A0_3 l0_3.length c0_3, .int .i64 a0_4] 27 (0, 0)) (by (with_reducible repeat (first | refine blk_drewN ?_ _ | refine blk_drew ?_ | refine blk_alloc ?_ _)); exact BK113.out)) : gb113 ≠ gb114)); have n7_ := Aside0.mk ((by rw [hg]; exact Nat.ne_of_gt (blk_lt (g := gb113) (o := .cells #[.int .u8 a0_0, .int .i64 a0_1, .string a0_2, .slice A0_3 l0_3.length c0_3, .int .i64 a0_4] 27 (0, 0)) (by (with_reducible repeat (first | refine blk_drewN ?_ _ | refine blk_drew ?_ | refine blk_alloc ?_ _)); exact BK113.out)) : gb114 ≠ gb113)); clear HO0_3; clear BK113; clear HB; have HO0_3 := n0_; have BK113 := n1_; have HB := n2_; have BK114 := n3_; have GW114 := n4_; have GE114 := n5_; have NB113_114 := n6_; have NB114_113 := n7_; clear n0_ n1_ n2_ n3_ n4_ n5_ n6_ n7_; clear hb hbox hg; have hnb5 := NB113_114.out; have hnc5 := NB114_113.out; have hcz6_0 : w4.cell? ⟨gb113, 0, none⟩ = some (.int .u8 a0_0) := (blk_cell BK113.out 0).trans rfl; have hcz6_1 : w4.cell? ⟨gb113, 1, none⟩ = some (.int .i64 a0_1) := (blk_cell BK113.out 1).trans rfl; have hcz6_2 : w4.cell? ⟨gb113, 2, none⟩ = some (.string a0_2) := (blk_cell BK113.out 2).trans rfl; have hcz6_3 : w4.cell? ⟨gb113, 3, none⟩ = some (.slice A0_3 l0_3.length c0_3) := (blk_cell BK113.out 3).trans rfl; have hcz6_4 : w4.cell? ⟨gb113, 4, none⟩ = some (.int .i64 a0_4) := (blk_cell BK113.out 4).trans rfl; have hfz6_0 := blk_frozen BK113.out 0; have hfz6_1 := blk_frozen BK113.out 1; have hfz6_2 := blk_frozen BK113.out 2; have hfz6_3 := blk_frozen BK113.out 3; have hfz6_4 := blk_frozen BK113.out 4; have hcz7_0 : w4.cell? ⟨gb114, 0, none⟩ = some (.int .u8 0) := (blk_cell BK114.out 0).trans rfl; have hcz7_1 : w4.cell? ⟨gb114, 1, none⟩ = some (.int .i64 0) := (blk_cell BK114.out 1).trans rfl; have hcz7_2 : w4.cell? ⟨gb114, 2, none⟩ = some (.string (⟨#[]⟩ : ByteArray)) := (blk_cell BK114.out 2).trans rfl; have hcz7_3 : w4.cell? ⟨gb114, 3, none⟩ = some (.slice none 0 0) := (blk_cell BK114.out 3).trans rfl; have hcz7_4 : w4.cell? ⟨gb114, 4, none⟩ = some (.int .i64 0) := (blk_cell BK114.out 4).trans rfl; have hfz7_0 := blk_frozen BK114.out 0; have hfz7_1 := blk_frozen BK114.out 1; have hfz7_2 := blk_frozen BK114.out 2; have hfz7_3 := blk_frozen BK114.out 3; have hfz7_4 := blk_frozen BK114.out 4))
    refine bodyPost_ret (results_cell_row rfl _ _ gb114 27 #[.int .u8 a0_0, .int .i64 a0_1, .string a0_2, .slice none 0 0, .int .i64 a0_4] (0, 0) _ rfl (by (with_reducible repeat (first | refine blk_drewN ?_ _ | refine blk_drew ?_ | refine blk_alloc ?_ _)); refine blk_put (cs := #[.int .u8 a0_0, .int .i64 a0_1, .string a0_2, .slice none 0 0, .int .i64 0]) ?_ 4 _ rfl; (with_reducible repeat (first | refine blk_drewN ?_ _ | refine blk_drew ?_ | refine blk_alloc ?_ _)); refine blk_put (cs := #[.int .u8 a0_0, .int .i64 a0_1, .string a0_2, .slice none 0 0, .int .i64 0]) ?_ 3 _ rfl; (with_reducible repeat (first | refine blk_drewN ?_ _ | refine blk_drew ?_ | refine blk_alloc ?_ _)); refine blk_put (cs := #[.int .u8 a0_0, .int .i64 a0_1, .string (⟨#[]⟩ : ByteArray), .slice none 0 0, .int .i64 0]) ?_ 2 _ rfl; (with_reducible repeat (first | refine blk_drewN ?_ _ | refine blk_drew ?_ | refine blk_alloc ?_ _)); refine blk_put (cs := #[.int .u8 a0_0, .int .i64 0, .string (⟨#[]⟩ : ByteArray), .slice none 0 0, .int .i64 0]) ?_ 1 _ rfl; (with_reducible repeat (first | refine blk_drewN ?_ _ | refine blk_drew ?_ | refine blk_alloc ?_ _)); refine blk_put (cs := #[.int .u8 0, .int .i64 0, .string (⟨#[]⟩ : ByteArray), .slice none 0 0, .int .i64 0]) ?_ 0 _ rfl; (with_reducible repeat (first | refine blk_drewN ?_ _ | refine blk_drew ?_ | refine blk_alloc ?_ _)); refine blk_far ?_ NB114_113.out _; (with_reducible repeat (first | refine blk_drewN ?_ _ | refine blk_drew ?_ | refine blk_alloc ?_ _)); exact BK114.out) Try.underlying27 rfl (by kernel_rfl)) rfl ?_
    exact ⟨_, by first | rfl | (simp [errW_none, errW_some] <;> rfl) | (simp [*, errW_none, errW_some] <;> rfl), by first | exact Kd.R_nil _ _ _ _ _ | exact Kd.N_nil _ _ _ _ _ | exact Kd.V_nil _ _ _ _ _ | exact Kd.Q_nil _ _ _ _ _ | exact Kd.S_nil _ _ _ _ _, by repeat (first | (with_reducible first | exact HB.out | apply below_alloc | apply pw_below_drewN | apply below_drew1 | refine below_set ?_ GE113.out | refine below_set ?_ GE114.out) | exact HB.out)⟩
  · rw [if_neg c2] at H
    have c2b0 : ((l0_3.length : Int) == 0) = false := beq_eq_false_iff_ne.mpr c2
    have c2b1 : ((l0_3.length : Int) != 0) = true := bne_iff_ne.mpr c2
    have c2b2 : ¬ (l0_3 = []) := fun h_ => c2 (by rw [h_]; rfl)
    by_cases c8 : 0 ≤ (l0_3.length : Int)
    · rw [if_pos c8] at H
      have c8b0 := eq_true c8
      have c8b1 : decide (0 ≤ (l0_3.length : Int)) = true := decide_eq_true c8
      clear c8
      by_cases c9 : ((l0_3.length : Int) : Int).toNat ≤ 4398046511104
      · rw [if_pos c9] at H
        have c9b0 := eq_true c9
        have c9b1 : decide (((l0_3.length : Int) : Int).toNat ≤ 4398046511104) = true := decide_eq_true c9
        clear c9
        obtain ⟨y115, hy115⟩ : ∃ y_ : List (S27), y_ = (List.replicate ((l0_3.length : Int) : Int).toNat z27) := ⟨_, rfl⟩
        replace H : (value_own.l0 k y115 l0_3 (l0_3.length : Int) 0 a0_0 a0_1 a0_2 l0_3 a0_4) = some (r1, r2, r3, r4, r5) := by first | (rw [hy115]; with_reducible exact H) | (have H2_ := (Option.bind_some _ _).symm.trans H; rw [hy115]; with_reducible exact H2_) | (have H2_ := (Option.bind_some _ _).symm.trans H; with_reducible exact H2_) | with_reducible exact H | (rw [hy115]; exact H) | exact H
        have Ny115 := Aside0.mk hy115
        clear hy115
        have H' := Aside0.mk H
        clear H
        go_enter Try.func56, Try.ntmps56
        go_wp2_with (first | ((with_reducible refine gate_dst (N := 1) rfl ?_); refine box_event ?hg (N := 1) ?hd (cs := #[.int .u8 a0_0, .int .i64 a0_1, .string a0_2, .slice A0_3 l0_3.length c0_3, .int .i64 a0_4]) (t := 27) ?hr ?_; (case hd => rfl); (case hg => rfl); (case hr => first | (go_simp; done) | (go_simp; rfl)); intro gb113 hg w10 hbox hb; have n0_ := Aside0.mk (Kd.V_below (Kd.V_elderB (by (with_reducible repeat (first | apply Kd.V_alloc | apply Kd.V_drewN | apply Kd.V_drew)); exact HO0_3.out) gb113 (Nat.le_of_eq hg.symm)) hb); have n1_ := Aside0.mk (below_step (by repeat (first | (with_reducible first | exact HB.out | apply below_alloc | apply pw_below_drewN | apply below_drew1) | exact HB.out)) hb); have n2_ := Aside0.mk (hbox); have n3_ := Aside0.mk ((by rw [hg]; exact (below_size (by repeat (first | (with_reducible first | exact HB.out | apply below_alloc | apply pw_below_drewN | apply below_drew1) | exact HB.out))) : w.heap.size ≤ gb113)); have n4_ := Aside0.mk ((by rw [hg]; exact (below_size (by repeat (first | (with_reducible first | exact HB.out | apply below_alloc | apply pw_below_drewN | apply below_drew1) | exact HB.out))) : w.heap.size ≤ gb113)); clear HO0_3; clear HB; have HO0_3 := n0_; have HB := n1_; have BK113 := n2_; have GW113 := n3_; have GE113 := n4_; clear n0_ n1_ n2_ n3_ n4_; clear hb hbox hg) | ((with_reducible refine gate_dst (N := 2) rfl ?_); refine box_event ?hg (N := 2) ?hd (cs := #[.int .u8 0, .int .i64 0, .string (⟨#[]⟩ : ByteArray), .slice none 0 0, .int .i64 0]) (t := 27) ?hr ?_; (case hd => rfl); (case hg => rfl); (case hr => first | (go_simp; done) | (go_simp; rfl)); intro gb114 hg w11 hbox hb; have n0_ := Aside0.mk (Kd.V_below (Kd.V_elderB (by (with_reducible repeat (first | apply Kd.V_alloc | apply Kd.V_drewN | apply Kd.V_drew)); exact HO0_3.out) gb114 (Nat.le_of_eq hg.symm)) hb); have n1_ := Aside0.mk (blk_below (g := gb113) (o := .cells #[.int .u8 a0_0, .int .i64 a0_1, .string a0_2, .slice A0_3 l0_3.length c0_3, .int .i64 a0_4] 27 (0, 0)) (by (with_reducible repeat (first | refine blk_drewN ?_ _ | refine blk_drew ?_ | refine blk_alloc ?_ _)); exact BK113.out) hb); have n2_ := Aside0.mk (below_step (by repeat (first | (with_reducible first | exact HB.out | apply below_alloc | apply pw_below_drewN | apply below_drew1 | refine below_set ?_ GE113.out) | exact HB.out)) hb); have n3_ := Aside0.mk (hbox); have n4_ := Aside0.mk ((by rw [hg]; exact (below_size (by repeat (first | (with_reducible first | exact HB.out | apply below_alloc | apply pw_below_drewN | apply below_drew1 | refine below_set ?_ GE113.out) | exact HB.out))) : w.heap.size ≤ gb114)); have n5_ := Aside0.mk ((by rw [hg]; exact (below_size (by repeat (first | (with_reducible first | exact HB.out | apply below_alloc | apply pw_below_drewN | apply below_drew1 | refine below_set ?_ GE113.out) | exact HB.out))) : w.heap.size ≤ gb114)); have n6_ := Aside0.mk ((by rw [hg]; exact Nat.ne_of_lt (blk_lt (g := gb113) (o := .cells #[.int .u8 a0_0, .int .i64 a0_1, .string a0_2, .slice A0_3 l0_3.length c0_3, .int .i64 a0_4] 27 (0, 0)) (by (with_reducible repeat (first | refine blk_drewN ?_ _ | refine blk_drew ?_ | refine blk_alloc ?_ _)); exact BK113.out)) : gb113 ≠ gb114)); have n7_ := Aside0.mk ((by rw [hg]; exact Nat.ne_of_gt (blk_lt (g := gb113) (o := .cells #[.int .u8 a0_0, .int .i64 a0_1, .string a0_2, .slice A0_3 l0_3.length c0_3, .int .i64 a0_4] 27 (0, 0)) (by (with_reducible repeat (first | refine blk_drewN ?_ _ | refine blk_drew ?_ | refine blk_alloc ?_ _)); exact BK113.out)) : gb114 ≠ gb113)); clear HO0_3; clear BK113; clear HB; have HO0_3 := n0_; have BK113 := n1_; have HB := n2_; have BK114 := n3_; have GW114 := n4_; have GE114 := n5_; have NB113_114 := n6_; have NB114_113 := n7_; clear n0_ n1_ n2_ n3_ n4_ n5_ n6_ n7_; clear hb hbox hg; have hnb12 := NB113_114.out; have hnc12 := NB114_113.out; have hcz13_0 : w11.cell? ⟨gb113, 0, none⟩ = some (.int .u8 a0_0) := (blk_cell BK113.out 0).trans rfl; have hcz13_1 : w11.cell? ⟨gb113, 1, none⟩ = some (.int .i64 a0_1) := (blk_cell BK113.out 1).trans rfl; have hcz13_2 : w11.cell? ⟨gb113, 2, none⟩ = some (.string a0_2) := (blk_cell BK113.out 2).trans rfl; have hcz13_3 : w11.cell? ⟨gb113, 3, none⟩ = some (.slice A0_3 l0_3.length c0_3) := (blk_cell BK113.out 3).trans rfl; have hcz13_4 : w11.cell? ⟨gb113, 4, none⟩ = some (.int .i64 a0_4) := (blk_cell BK113.out 4).trans rfl; have hfz13_0 := blk_frozen BK113.out 0; have hfz13_1 := blk_frozen BK113.out 1; have hfz13_2 := blk_frozen BK113.out 2; have hfz13_3 := blk_frozen BK113.out 3; have hfz13_4 := blk_frozen BK113.out 4) | ((with_reducible refine gate_dst (N := 15) rfl ?_); refine Kd.R_make k27 _ 27 rfl (N := 15) rfl 24 _ _ rfl (l0_3.length : Int) rfl rfl Try.underlying24 (.agg #[(.int .u8 0), (.int .i64 0), (.string ⟨#[]⟩), (.slice none 0 0), (.int .i64 0)]) 64 info27 rfl (by decide) (by omega) z27 (ok := fun _ => True) (okp := fun _ => True) (k27_mkM _ _ _ z27 (Kd.R_nil _ _ _ _ _)) (fun _ hk => hk) trivial (of_decide_eq_true (by first | (with_reducible assumption) | assumption)) (Nat.le_trans (Nat.mul_le_mul_right _ (of_decide_eq_true (by first | (with_reducible assumption) | assumption) : (l0_3.length : Int).toNat ≤ 4398046511104)) (by omega)) (Below.refl _ _) (Nat.le_refl _) ?_; intro v116 w14 ho15 hb hg_ hnew_; clear hg_ hnew_; (first | rw [← Ny115.out] at ho15 | (simp only [Int.reduceToNat] at ho15; rw [← Ny115.out] at ho15)); have n0_ := Aside0.mk (Kd.V_elder' (by (with_reducible repeat (first | apply Kd.V_alloc | apply Kd.V_drewN | apply Kd.V_drew)); exact HO0_3.out) (Kd.R_base ho15) hb); have n1_ := Aside0.mk (Kd.R_lower (Kd.R_newB (Kd.R_newB (Kd.R_newM (M := fun k_ => (w.heap.size ≤ k_)) ho15 (below_size (by repeat (first | (with_reducible first | exact HB.out | apply below_alloc | apply pw_below_drewN | apply below_drew1 | refine below_set ?_ GE113.out | refine below_set ?_ GE114.out) | exact HB.out))) (fun k_ h_ => h_)) (g := gb113) (o := .cells #[.int .u8 a0_0, .int .i64 a0_1, .string a0_2, .slice A0_3 l0_3.length c0_3, .int .i64 a0_4] 27 (0, 0)) (by (with_reducible repeat (first | refine blk_drewN ?_ _ | refine blk_drew ?_ | refine blk_alloc ?_ _)); exact BK113.out)) (g := gb114) (o := .cells #[.int .u8 0, .int .i64 0, .string (⟨#[]⟩ : ByteArray), .slice none 0 0, .int .i64 0] 27 (0, 0)) (by (with_reducible repeat (first | refine blk_drewN ?_ _ | refine blk_drew ?_ | refine blk_alloc ?_ _)); exact BK114.out)) (below_size (by repeat (first | (with_reducible first | exact HB.out | apply below_alloc | apply pw_below_drewN | apply below_drew1 | refine below_set ?_ GE113.out | refine below_set ?_ GE114.out) | exact HB.out)))); have n2_ := Aside0.mk (blk_below (g := gb113) (o := .cells #[.int .u8 a0_0, .int .i64 a0_1, .string a0_2, .slice A0_3 l0_3.length c0_3, .int .i64 a0_4] 27 (0, 0)) (by (with_reducible repeat (first | refine blk_drewN ?_ _ | refine blk_drew ?_ | refine blk_alloc ?_ _)); exact BK113.out) hb); have n3_ := Aside0.mk (blk_below (g := gb114) (o := .cells #[.int .u8 0, .int .i64 0, .string (⟨#[]⟩ : ByteArray), .slice none 0 0, .int .i64 0] 27 (0, 0)) (by (with_reducible repeat (first | refine blk_drewN ?_ _ | refine blk_drew ?_ | refine blk_alloc ?_ _)); exact BK114.out) hb); have n4_ := Aside0.mk (below_step (by repeat (first | (with_reducible first | exact HB.out | apply below_alloc | apply pw_below_drewN | apply below_drew1 | refine below_set ?_ GE113.out | refine below_set ?_ GE114.out) | exact HB.out)) hb); clear HO0_3; clear BK113; clear BK114; clear HB; have HO0_3 := n0_; have HO117 := n1_; have BK113 := n2_; have BK114 := n3_; have HB := n4_; clear n0_ n1_ n2_ n3_ n4_; clear hb ho15; have hcz16_0 : w14.cell? ⟨gb113, 0, none⟩ = some (.int .u8 a0_0) := (blk_cell BK113.out 0).trans rfl; have hcz16_1 : w14.cell? ⟨gb113, 1, none⟩ = some (.int .i64 a0_1) := (blk_cell BK113.out 1).trans rfl; have hcz16_2 : w14.cell? ⟨gb113, 2, none⟩ = some (.string a0_2) := (blk_cell BK113.out 2).trans rfl; have hcz16_3 : w14.cell? ⟨gb113, 3, none⟩ = some (.slice A0_3 l0_3.length c0_3) := (blk_cell BK113.out 3).trans rfl; have hcz16_4 : w14.cell? ⟨gb113, 4, none⟩ = some (.int .i64 a0_4) := (blk_cell BK113.out 4).trans rfl; have hfz16_0 := blk_frozen BK113.out 0; have hfz16_1 := blk_frozen BK113.out 1; have hfz16_2 := blk_frozen BK113.out 2; have hfz16_3 := blk_frozen BK113.out 3; have hfz16_4 := blk_frozen BK113.out 4))
        go_loopg [19] k (fun kq v19 w' => ∃ (x3_1 : List (S27)) (x19_1 : Int) (x114000_1 : Int) (x114001_1 : Int) (x114002_1 : ByteArray) (x114003_1 : List (S27)) (x114004_1 : Int) (x115000_1 : Int) (x115001_1 : Int) (x115002_1 : ByteArray) (x115004_1 : Int) (u114003 : Value), v19 = .int .i64 x19_1 ∧ Aside0 (value_own.l0 kq x3_1 l0_3 (l0_3.length : Int) x19_1 x114000_1 x114001_1 x114002_1 x114003_1 x114004_1 = some (r1, r2, r3, r4, r5)) ∧ Aside0 (kq ≤ k) ∧ Aside0 (Kd.R k27 27 w' w.heap.size (fun k_ => (w.heap.size ≤ k_) ∧ k_ ≠ gb113 ∧ k_ ≠ gb114) v116 x3_1) ∧ Aside0 (Kd.V k27 27 w' w.heap.size (fun k_ => (P0_3_ k_ ∨ w.heap.size ≤ k_) ∧ some k_ ≠ (v116 : Value).ownBlock ∧ k_ ≠ gb113 ∧ k_ ≠ gb114) (.slice A0_3 l0_3.length c0_3) l0_3) ∧ Aside0 (Kd.V k27 27 w' w.heap.size (fun k_ => (P0_3_ k_ ∨ w.heap.size ≤ k_) ∧ some k_ ≠ (v116 : Value).ownBlock ∧ k_ ≠ gb113 ∧ k_ ≠ gb114) u114003 x114003_1) ∧ Aside0 (w'.heap[gb113]? = some (.cells #[.int .u8 x114000_1, .int .i64 x114001_1, .string x114002_1, u114003, .int .i64 x114004_1] 27 (0, 0))) ∧ Aside0 (w'.heap[gb114]? = some (.cells #[.int .u8 x115000_1, .int .i64 x115001_1, .string x115002_1, (.slice none 0 0), .int .i64 x115004_1] 27 (0, 0))) ∧ Aside0 (Below w.heap.size w w'))
        case atStart => exact ⟨(y115), (0), (a0_0), (a0_1), (a0_2), (l0_3), (a0_4), (0), (0), ((⟨#[]⟩ : ByteArray)), (0), (.slice A0_3 l0_3.length c0_3), (by first | rfl | (simp; done) | (simp [*]; done)), H', ⟨Nat.le_refl _⟩, ⟨by (with_reducible repeat (first | apply Kd.R_alloc | apply Kd.R_drewN | apply Kd.R_drew)); exact Kd.R_mono HO117.out (fun _ hk => ⟨hk.1.1.1, ⟨hk.1.2, hk.2⟩⟩)⟩, ⟨by (with_reducible repeat (first | apply Kd.V_alloc | apply Kd.V_drewN | apply Kd.V_drew)); exact Kd.V_mono HO0_3.out (fun _ hk => ⟨hk.1.1.1, ⟨hk.2, ⟨hk.1.1.2, hk.1.2⟩⟩⟩)⟩, ⟨by (with_reducible repeat (first | apply Kd.V_alloc | apply Kd.V_drewN | apply Kd.V_drew)); exact Kd.V_mono HO0_3.out (fun _ hk => ⟨hk.1.1.1, ⟨hk.2, ⟨hk.1.1.2, hk.1.2⟩⟩⟩)⟩, ⟨by (with_reducible repeat (first | refine blk_drewN ?_ _ | refine blk_drew ?_ | refine blk_alloc ?_ _)); exact BK113.out⟩, ⟨by (with_reducible repeat (first | refine blk_drewN ?_ _ | refine blk_drew ?_ | refine blk_alloc ?_ _)); exact BK114.out⟩, ⟨by repeat (first | (with_reducible first | exact HB.out | apply below_alloc | apply pw_below_drewN | apply below_drew1 | refine below_set ?_ GE113.out | refine below_set ?_ GE114.out) | exact HB.out)⟩⟩
        case round =>
          clear H'
          try clear c1
          try clear c2
          try clear c2b0
          try clear c2b1
          try clear c2b2
          try clear p2
          try clear c5
          try clear c8
          try clear c8b0
          try clear c8b1
          try clear c9
          try clear c9b0
          try clear c9b1
          try clear c12
          try clear hcz13_0
          try clear hcz13_1
          try clear hcz13_2
          try clear hcz13_3
          try clear hcz13_4
          try clear hcz16_0
          try clear hcz16_1
          try clear hcz16_2
          try clear hcz16_3
          try clear hcz16_4
          try clear hcz6_0
          try clear hcz6_1
          try clear hcz6_2
          try clear hcz6_3
          try clear hcz6_4
          try clear hcz7_0
          try clear hcz7_1
          try clear hcz7_2
          try clear hcz7_3
          try clear hcz7_4
          try clear hfz13_0
          try clear hfz13_1
          try clear hfz13_2
          try clear hfz13_3
          try clear hfz13_4
          try clear hfz16_0
          try clear hfz16_1
          try clear hfz16_2
          try clear hfz16_3
          try clear hfz16_4
          try clear hfz6_0
          try clear hfz6_1
          try clear hfz6_2
          try clear hfz6_3
          try clear hfz6_4
          try clear hfz7_0
          try clear hfz7_1
          try clear hfz7_2
          try clear hfz7_3
          try clear hfz7_4
          try clear HO_3
          try clear HO_17
          try clear HO_114003
          try clear BK113
          try clear BK114
          try clear HB
          try clear HA
          try clear HK1
          obtain ⟨x3_1, x19_1, x114000_1, x114001_1, x114002_1, x114003_1, x114004_1, x115000_1, x115001_1, x115002_1, x115004_1, u114003, rfl, HA, HK1, HO_3, HO_17, HO_114003, BK113, BK114, HB⟩ := hrel
          cases gk with
          | zero => exact absurd HA.out (by simp [value_own.l0])
          | succ k1 =>
            have H := HA.out
            clear HA
            simp only [value_own.l0] at H
            by_cases c17 : x19_1 < (l0_3.length : Int)
            · rw [if_pos c17] at H
              have c17b0 : decide (x19_1 < (l0_3.length : Int)) = true := decide_eq_true c17
              clear c17
              by_cases c18 : 0 ≤ x19_1
              · rw [if_pos c18] at H
                have c18b0 : decide (0 ≤ x19_1) = true := decide_eq_true c18
                clear c18
                by_cases c19 : x19_1 < (l0_3.length : Int)
                · rw [if_pos c19] at H
                  have c19b0 : decide (x19_1 < (l0_3.length : Int)) = true := decide_eq_true c19
                  clear c19
                  replace H := Option.bind_eq_some_iff.mp H
                  obtain ⟨⟨t120, t121, t122, t123, t126⟩, A200, H⟩ := H
                  replace H : (if x19_1 < (x3_1.length : Int) then (value_own.l0 k1 (x3_1.set (x19_1 : Int).toNat (⟨t120, t121, t122, t123, t126⟩ : S27)) l0_3 (l0_3.length : Int) (wrap64 (x19_1 + 1)) x114000_1 x114001_1 x114002_1 x114003_1 x114004_1) else (none)) = some (r1, r2, r3, r4, r5) := H
                  have A20 := Aside0.mk A200
                  clear A200
                  by_cases c21 : x19_1 < (x3_1.length : Int)
                  · rw [if_pos c21] at H
                    have c21b0 : decide (x19_1 < (x3_1.length : Int)) = true := decide_eq_true c21
                    clear c21
                    obtain ⟨y127, hy127⟩ : ∃ y_ : List (S27), y_ = (x3_1.set (x19_1 : Int).toNat (⟨t120, t121, t122, t123, t126⟩ : S27)) := ⟨_, rfl⟩
                    replace H : (value_own.l0 k1 y127 l0_3 (l0_3.length : Int) (wrap64 (x19_1 + 1)) x114000_1 x114001_1 x114002_1 x114003_1 x114004_1) = some (r1, r2, r3, r4, r5) := by first | (rw [hy127]; with_reducible exact H) | (have H2_ := (Option.bind_some _ _).symm.trans H; rw [hy127]; with_reducible exact H2_) | (have H2_ := (Option.bind_some _ _).symm.trans H; with_reducible exact H2_) | with_reducible exact H | (rw [hy127]; exact H) | exact H
                    have Ny127 := Aside0.mk hy127
                    clear hy127
                    have H' := Aside0.mk H
                    clear H
                    have p118 : 0 ≤ (x19_1 : Int) := of_decide_eq_true (by first | (with_reducible assumption) | assumption)
                    have q118 : x19_1 < (l0_3.length : Int) := of_decide_eq_true (by first | (with_reducible assumption) | assumption)
                    obtain ⟨ad118, A118_3, c118_3, e118, hx118_0, hx118_1, hx118_2, hx118_3, hx118_4, hl118_3, hi118_3⟩ := at_T27 (Kd.V_reads' HO_17.out).2.2 x19_1 p118 q118
                    cases e118
                    obtain ⟨ce118, hce118, hMe118, hcc118⟩ := Kd.V_get HO_17.out z27 x19_1 p118 (by first | exact q118 | exact of_decide_eq_true (by first | (with_reducible assumption) | assumption) | (have e_ := (Kd.V_reads' HO_17.out).1; omega))
                    obtain ⟨ua118_3, uc118_3, rfl, ul118_3, ge118_3⟩ := k27_openF hMe118
                    have hv118_3 := hcc118 3 _ rfl
                    rw [add_field _ _ 3 (by omega)] at hv118_3
                    replace hv118_3 := Option.some.inj (hv118_3.symm.trans hx118_3)
                    injection hv118_3 with hva_ hvn_ hvc_
                    rw [hva_] at ge118_3
                    rw [hvc_] at ul118_3
                    have HL118_3 := Aside0.mk (show Kd.V k27 27 _ w.heap.size _ _ ((rd_T27 l0_3 x19_1).f3) from Kd.V_mk ul118_3 ge118_3)
                    clear hva_ hvn_ hvc_ ge118_3 ul118_3
                    clear hcc118 hce118
                    have HR118_3 := Aside0.mk hi118_3
                    have HC118_3 := Aside0.mk hl118_3
                    clear hi118_3 hl118_3
                    replace p118 := eq_true p118
                    replace q118 := eq_true q118
                    go_wp2_with (first | ((with_reducible refine gate_dst (N := 5) rfl ?_); refine box_event ?hg (N := 5) ?hd (cs := #[.int .u8 0, .int .i64 0, .string (⟨#[]⟩ : ByteArray), .slice none 0 0, .int .i64 0]) (t := 27) ?hr ?_; (case hd => rfl); (case hg => rfl); (case hr => first | (go_simp; done) | (go_simp; rfl)); intro gb119 hg w23 hbox hb; have n0_ := Aside0.mk (Kd.R_below (Kd.R_elderB (by (with_reducible repeat (first | apply Kd.R_alloc | apply Kd.R_drewN | apply Kd.R_drew)); exact HO_3.out) gb119 (Nat.le_of_eq hg.symm)) hb); have n1_ := Aside0.mk (Kd.V_below (Kd.V_elderB (by (with_reducible repeat (first | apply Kd.V_alloc | apply Kd.V_drewN | apply Kd.V_drew)); exact HO_17.out) gb119 (Nat.le_of_eq hg.symm)) hb); have n2_ := Aside0.mk (Kd.V_below (Kd.V_elderB (by (with_reducible repeat (first | apply Kd.V_alloc | apply Kd.V_drewN | apply Kd.V_drew)); exact HO_114003.out) gb119 (Nat.le_of_eq hg.symm)) hb); have n3_ := Aside0.mk (Kd.V_below (Kd.V_elderB (by (with_reducible repeat (first | apply Kd.V_alloc | apply Kd.V_drewN | apply Kd.V_drew)); exact HL118_3.out) gb119 (Nat.le_of_eq hg.symm)) hb); have n4_ := Aside0.mk (blk_below (g := gb113) (o := .cells #[.int .u8 x114000_1, .int .i64 x114001_1, .string x114002_1, u114003, .int .i64 x114004_1] 27 (0, 0)) (by (with_reducible repeat (first | refine blk_drewN ?_ _ | refine blk_drew ?_ | refine blk_alloc ?_ _)); exact BK113.out) hb); have n5_ := Aside0.mk (blk_below (g := gb114) (o := .cells #[.int .u8 x115000_1, .int .i64 x115001_1, .string x115002_1, .slice none 0 0, .int .i64 x115004_1] 27 (0, 0)) (by (with_reducible repeat (first | refine blk_drewN ?_ _ | refine blk_drew ?_ | refine blk_alloc ?_ _)); exact BK114.out) hb); have n6_ := Aside0.mk (Kd.C_below (by repeat (first | (with_reducible exact HR118_3.out) | (with_reducible refine Kd.C_alloc ?_ _) | (with_reducible refine Kd.C_drewN ?_ _) | (with_reducible refine Kd.C_drew ?_) | exact HR118_3.out)) hb); have n7_ := Aside0.mk (below_step (by repeat (first | (with_reducible first | exact HB.out | apply below_alloc | apply pw_below_drewN | apply below_drew1 | refine below_set ?_ GE113.out | refine below_set ?_ GE114.out) | exact HB.out)) hb); have n8_ := Aside0.mk (hbox); have n9_ := Aside0.mk ((by rw [hg]; exact (below_size (by repeat (first | (with_reducible first | exact HB.out | apply below_alloc | apply pw_below_drewN | apply below_drew1 | refine below_set ?_ GE113.out | refine below_set ?_ GE114.out) | exact HB.out))) : w.heap.size ≤ gb119)); have n10_ := Aside0.mk ((by rw [hg]; exact (below_size (by repeat (first | (with_reducible first | exact HB.out | apply below_alloc | apply pw_below_drewN | apply below_drew1 | refine below_set ?_ GE113.out | refine below_set ?_ GE114.out) | exact HB.out))) : w.heap.size ≤ gb119)); have n11_ := Aside0.mk ((by rw [hg]; exact Nat.ne_of_lt (blk_lt (g := gb113) (o := .cells #[.int .u8 x114000_1, .int .i64 x114001_1, .string x114002_1, u114003, .int .i64 x114004_1] 27 (0, 0)) (by (with_reducible repeat (first | refine blk_drewN ?_ _ | refine blk_drew ?_ | refine blk_alloc ?_ _)); exact BK113.out)) : gb113 ≠ gb119)); have n12_ := Aside0.mk ((by rw [hg]; exact Nat.ne_of_gt (blk_lt (g := gb113) (o := .cells #[.int .u8 x114000_1, .int .i64 x114001_1, .string x114002_1, u114003, .int .i64 x114004_1] 27 (0, 0)) (by (with_reducible repeat (first | refine blk_drewN ?_ _ | refine blk_drew ?_ | refine blk_alloc ?_ _)); exact BK113.out)) : gb119 ≠ gb113)); have n13_ := Aside0.mk ((by rw [hg]; exact Nat.ne_of_lt (blk_lt (g := gb114) (o := .cells #[.int .u8 x115000_1, .int .i64 x115001_1, .string x115002_1, .slice none 0 0, .int .i64 x115004_1] 27 (0, 0)) (by (with_reducible repeat (first | refine blk_drewN ?_ _ | refine blk_drew ?_ | refine blk_alloc ?_ _)); exact BK114.out)) : gb114 ≠ gb119)); have n14_ := Aside0.mk ((by rw [hg]; exact Nat.ne_of_gt (blk_lt (g := gb114) (o := .cells #[.int .u8 x115000_1, .int .i64 x115001_1, .string x115002_1, .slice none 0 0, .int .i64 x115004_1] 27 (0, 0)) (by (with_reducible repeat (first | refine blk_drewN ?_ _ | refine blk_drew ?_ | refine blk_alloc ?_ _)); exact BK114.out)) : gb119 ≠ gb114)); clear HO_3; clear HO_17; clear HO_114003; clear HL118_3; clear BK113; clear BK114; clear HR118_3; clear HB; have HO_3 := n0_; have HO_17 := n1_; have HO_114003 := n2_; have HL118_3 := n3_; have BK113 := n4_; have BK114 := n5_; have HR118_3 := n6_; have HB := n7_; have BK119 := n8_; have GW119 := n9_; have GE119 := n10_; have NB113_119 := n11_; have NB119_113 := n12_; have NB114_119 := n13_; have NB119_114 := n14_; clear n0_ n1_ n2_ n3_ n4_ n5_ n6_ n7_ n8_ n9_ n10_ n11_ n12_ n13_ n14_; clear hb hbox hg; have hnb24 := NB119_113.out; have hnc24 := NB113_119.out; have hnb25 := NB119_114.out; have hnc25 := NB114_119.out; have hcz26_0 : w23.cell? ⟨gb119, 0, none⟩ = some (.int .u8 0) := (blk_cell BK119.out 0).trans rfl; have hcz26_1 : w23.cell? ⟨gb119, 1, none⟩ = some (.int .i64 0) := (blk_cell BK119.out 1).trans rfl; have hcz26_2 : w23.cell? ⟨gb119, 2, none⟩ = some (.string (⟨#[]⟩ : ByteArray)) := (blk_cell BK119.out 2).trans rfl; have hcz26_3 : w23.cell? ⟨gb119, 3, none⟩ = some (.slice none 0 0) := (blk_cell BK119.out 3).trans rfl; have hcz26_4 : w23.cell? ⟨gb119, 4, none⟩ = some (.int .i64 0) := (blk_cell BK119.out 4).trans rfl; have hfz26_0 := blk_frozen BK119.out 0; have hfz26_1 := blk_frozen BK119.out 1; have hfz26_2 := blk_frozen BK119.out 2; have hfz26_3 := blk_frozen BK119.out 3; have hfz26_4 := blk_frozen BK119.out 4) | ((with_reducible refine gate_store (t := 27) (p := 5) rfl ?_); refine store_event (t := 27) (p := 5) (v := ?vo_w27) (w1 := (((((w23.setCell ⟨gb119, 0, none⟩ (.int .u8 ((rd_T27 l0_3 x19_1).f0))).setCell ⟨gb119, 1, none⟩ (.int .i64 ((rd_T27 l0_3 x19_1).f1))).setCell ⟨gb119, 2, none⟩ (.string ((rd_T27 l0_3 x19_1).f2))).setCell ⟨gb119, 3, none⟩ (.slice A118_3 ((rd_T27 l0_3 x19_1).f3).length c118_3)).setCell ⟨gb119, 4, none⟩ (.int .i64 ((rd_T27 l0_3 x19_1).f4)))) ?hg ?ho ?hn ?hr ?_; (case ho => rfl); (case hg => rfl); (case hn => rfl); (case hr => first | (go_simp; done) | (go_simp; rfl)); intro w27 hw; have n0_ : Aside0 (Kd.R k27 27 w27 w.heap.size (fun k_ => (w.heap.size ≤ k_) ∧ k_ ≠ gb113 ∧ k_ ≠ gb114 ∧ k_ ≠ gb119) v116 x3_1) := ⟨(by rw [hw]; exact (by (with_reducible repeat (first | apply Kd.R_alloc | apply Kd.R_drewN | apply Kd.R_drew)); exact Kd.R_mono (Kd.R_far (p := ⟨gb119, 4, none⟩) (Kd.R_far (p := ⟨gb119, 3, none⟩) (Kd.R_far (p := ⟨gb119, 2, none⟩) (Kd.R_far (p := ⟨gb119, 1, none⟩) (Kd.R_far (p := ⟨gb119, 0, none⟩) (Kd.R_mono HO_3.out (fun k_ hk => (⟨hk, hk.2⟩ : _ ∧ k_ ≠ gb119))) (fun _ hk => hk.2) (.int .u8 ((rd_T27 l0_3 x19_1).f0))) (fun _ hk => hk.2) (.int .i64 ((rd_T27 l0_3 x19_1).f1))) (fun _ hk => hk.2) (.string ((rd_T27 l0_3 x19_1).f2))) (fun _ hk => hk.2) (.slice A118_3 ((rd_T27 l0_3 x19_1).f3).length c118_3)) (fun _ hk => hk.2) (.int .i64 ((rd_T27 l0_3 x19_1).f4))) (fun _ hk => ⟨hk.1.1.1, ⟨hk.1.1.2.1, ⟨hk.1.1.2.2, hk.1.2⟩⟩⟩)))⟩; have n1_ : Aside0 (Kd.V k27 27 w27 w.heap.size (fun k_ => (P0_3_ k_ ∨ w.heap.size ≤ k_) ∧ some k_ ≠ (v116 : Value).ownBlock ∧ k_ ≠ gb113 ∧ k_ ≠ gb114 ∧ k_ ≠ gb119) (.slice (some ad118) l0_3.length c0_3) l0_3) := ⟨(by rw [hw]; exact (by (with_reducible repeat (first | apply Kd.V_alloc | apply Kd.V_drewN | apply Kd.V_drew)); exact Kd.V_mono (Kd.V_far (p := ⟨gb119, 4, none⟩) (Kd.V_far (p := ⟨gb119, 3, none⟩) (Kd.V_far (p := ⟨gb119, 2, none⟩) (Kd.V_far (p := ⟨gb119, 1, none⟩) (Kd.V_far (p := ⟨gb119, 0, none⟩) (Kd.V_mono HO_17.out (fun k_ hk => (⟨hk, hk.2⟩ : _ ∧ k_ ≠ gb119))) (fun _ hk => hk.2) (.int .u8 ((rd_T27 l0_3 x19_1).f0))) (fun _ hk => hk.2) (.int .i64 ((rd_T27 l0_3 x19_1).f1))) (fun _ hk => hk.2) (.string ((rd_T27 l0_3 x19_1).f2))) (fun _ hk => hk.2) (.slice A118_3 ((rd_T27 l0_3 x19_1).f3).length c118_3)) (fun _ hk => hk.2) (.int .i64 ((rd_T27 l0_3 x19_1).f4))) (fun _ hk => ⟨hk.1.1.1, ⟨hk.1.1.2.1, ⟨hk.1.1.2.2.1, ⟨hk.1.1.2.2.2, hk.1.2⟩⟩⟩⟩)))⟩; have n2_ : Aside0 (Kd.V k27 27 w27 w.heap.size (fun k_ => (P0_3_ k_ ∨ w.heap.size ≤ k_) ∧ some k_ ≠ (v116 : Value).ownBlock ∧ k_ ≠ gb113 ∧ k_ ≠ gb114 ∧ k_ ≠ gb119) u114003 x114003_1) := ⟨(by rw [hw]; exact (by (with_reducible repeat (first | apply Kd.V_alloc | apply Kd.V_drewN | apply Kd.V_drew)); exact Kd.V_mono (Kd.V_far (p := ⟨gb119, 4, none⟩) (Kd.V_far (p := ⟨gb119, 3, none⟩) (Kd.V_far (p := ⟨gb119, 2, none⟩) (Kd.V_far (p := ⟨gb119, 1, none⟩) (Kd.V_far (p := ⟨gb119, 0, none⟩) (Kd.V_mono HO_114003.out (fun k_ hk => (⟨hk, hk.2⟩ : _ ∧ k_ ≠ gb119))) (fun _ hk => hk.2) (.int .u8 ((rd_T27 l0_3 x19_1).f0))) (fun _ hk => hk.2) (.int .i64 ((rd_T27 l0_3 x19_1).f1))) (fun _ hk => hk.2) (.string ((rd_T27 l0_3 x19_1).f2))) (fun _ hk => hk.2) (.slice A118_3 ((rd_T27 l0_3 x19_1).f3).length c118_3)) (fun _ hk => hk.2) (.int .i64 ((rd_T27 l0_3 x19_1).f4))) (fun _ hk => ⟨hk.1.1.1, ⟨hk.1.1.2.1, ⟨hk.1.1.2.2.1, ⟨hk.1.1.2.2.2, hk.1.2⟩⟩⟩⟩)))⟩; have n3_ : Aside0 (Kd.V k27 27 w27 w.heap.size (fun k_ => (P0_3_ k_ ∨ w.heap.size ≤ k_) ∧ some k_ ≠ (v116 : Value).ownBlock ∧ k_ ≠ gb113 ∧ k_ ≠ gb114 ∧ k_ ≠ gb119) (.slice A118_3 ((rd_T27 l0_3 x19_1).f3).length c118_3) ((rd_T27 l0_3 x19_1).f3)) := ⟨(by rw [hw]; exact (by (with_reducible repeat (first | apply Kd.V_alloc | apply Kd.V_drewN | apply Kd.V_drew)); exact Kd.V_mono (Kd.V_far (p := ⟨gb119, 4, none⟩) (Kd.V_far (p := ⟨gb119, 3, none⟩) (Kd.V_far (p := ⟨gb119, 2, none⟩) (Kd.V_far (p := ⟨gb119, 1, none⟩) (Kd.V_far (p := ⟨gb119, 0, none⟩) (Kd.V_mono HL118_3.out (fun k_ hk => (⟨hk, hk.2⟩ : _ ∧ k_ ≠ gb119))) (fun _ hk => hk.2) (.int .u8 ((rd_T27 l0_3 x19_1).f0))) (fun _ hk => hk.2) (.int .i64 ((rd_T27 l0_3 x19_1).f1))) (fun _ hk => hk.2) (.string ((rd_T27 l0_3 x19_1).f2))) (fun _ hk => hk.2) (.slice A118_3 ((rd_T27 l0_3 x19_1).f3).length c118_3)) (fun _ hk => hk.2) (.int .i64 ((rd_T27 l0_3 x19_1).f4))) (fun _ hk => ⟨hk.1.1.1, ⟨hk.1.1.2.1, ⟨hk.1.1.2.2.1, ⟨hk.1.1.2.2.2, hk.1.2⟩⟩⟩⟩)))⟩; have n4_ : Aside0 (w27.heap[gb113]? = some (.cells #[.int .u8 x114000_1, .int .i64 x114001_1, .string x114002_1, u114003, .int .i64 x114004_1] 27 (0, 0))) := ⟨(by rw [hw]; exact (by (with_reducible repeat (first | refine blk_drewN ?_ _ | refine blk_drew ?_ | refine blk_alloc ?_ _)); refine blk_far ?_ NB113_119.out _; (with_reducible repeat (first | refine blk_drewN ?_ _ | refine blk_drew ?_ | refine blk_alloc ?_ _)); refine blk_far ?_ NB113_119.out _; (with_reducible repeat (first | refine blk_drewN ?_ _ | refine blk_drew ?_ | refine blk_alloc ?_ _)); refine blk_far ?_ NB113_119.out _; (with_reducible repeat (first | refine blk_drewN ?_ _ | refine blk_drew ?_ | refine blk_alloc ?_ _)); refine blk_far ?_ NB113_119.out _; (with_reducible repeat (first | refine blk_drewN ?_ _ | refine blk_drew ?_ | refine blk_alloc ?_ _)); refine blk_far ?_ NB113_119.out _; (with_reducible repeat (first | refine blk_drewN ?_ _ | refine blk_drew ?_ | refine blk_alloc ?_ _)); exact BK113.out))⟩; have n5_ : Aside0 (w27.heap[gb114]? = some (.cells #[.int .u8 x115000_1, .int .i64 x115001_1, .string x115002_1, .slice none 0 0, .int .i64 x115004_1] 27 (0, 0))) := ⟨(by rw [hw]; exact (by (with_reducible repeat (first | refine blk_drewN ?_ _ | refine blk_drew ?_ | refine blk_alloc ?_ _)); refine blk_far ?_ NB114_119.out _; (with_reducible repeat (first | refine blk_drewN ?_ _ | refine blk_drew ?_ | refine blk_alloc ?_ _)); refine blk_far ?_ NB114_119.out _; (with_reducible repeat (first | refine blk_drewN ?_ _ | refine blk_drew ?_ | refine blk_alloc ?_ _)); refine blk_far ?_ NB114_119.out _; (with_reducible repeat (first | refine blk_drewN ?_ _ | refine blk_drew ?_ | refine blk_alloc ?_ _)); refine blk_far ?_ NB114_119.out _; (with_reducible repeat (first | refine blk_drewN ?_ _ | refine blk_drew ?_ | refine blk_alloc ?_ _)); refine blk_far ?_ NB114_119.out _; (with_reducible repeat (first | refine blk_drewN ?_ _ | refine blk_drew ?_ | refine blk_alloc ?_ _)); exact BK114.out))⟩; have n6_ : Aside0 (w27.heap[gb119]? = some (.cells #[.int .u8 ((rd_T27 l0_3 x19_1).f0), .int .i64 ((rd_T27 l0_3 x19_1).f1), .string ((rd_T27 l0_3 x19_1).f2), .slice A118_3 ((rd_T27 l0_3 x19_1).f3).length c118_3, .int .i64 ((rd_T27 l0_3 x19_1).f4)] 27 (0, 0))) := ⟨(by rw [hw]; exact (by (with_reducible repeat (first | refine blk_drewN ?_ _ | refine blk_drew ?_ | refine blk_alloc ?_ _)); refine blk_put (cs := #[.int .u8 ((rd_T27 l0_3 x19_1).f0), .int .i64 ((rd_T27 l0_3 x19_1).f1), .string ((rd_T27 l0_3 x19_1).f2), .slice A118_3 ((rd_T27 l0_3 x19_1).f3).length c118_3, .int .i64 0]) ?_ 4 _ rfl; (with_reducible repeat (first | refine blk_drewN ?_ _ | refine blk_drew ?_ | refine blk_alloc ?_ _)); refine blk_put (cs := #[.int .u8 ((rd_T27 l0_3 x19_1).f0), .int .i64 ((rd_T27 l0_3 x19_1).f1), .string ((rd_T27 l0_3 x19_1).f2), .slice none 0 0, .int .i64 0]) ?_ 3 _ rfl; (with_reducible repeat (first | refine blk_drewN ?_ _ | refine blk_drew ?_ | refine blk_alloc ?_ _)); refine blk_put (cs := #[.int .u8 ((rd_T27 l0_3 x19_1).f0), .int .i64 ((rd_T27 l0_3 x19_1).f1), .string (⟨#[]⟩ : ByteArray), .slice none 0 0, .int .i64 0]) ?_ 2 _ rfl; (with_reducible repeat (first | refine blk_drewN ?_ _ | refine blk_drew ?_ | refine blk_alloc ?_ _)); refine blk_put (cs := #[.int .u8 ((rd_T27 l0_3 x19_1).f0), .int .i64 0, .string (⟨#[]⟩ : ByteArray), .slice none 0 0, .int .i64 0]) ?_ 1 _ rfl; (with_reducible repeat (first | refine blk_drewN ?_ _ | refine blk_drew ?_ | refine blk_alloc ?_ _)); refine blk_put (cs := #[.int .u8 0, .int .i64 0, .string (⟨#[]⟩ : ByteArray), .slice none 0 0, .int .i64 0]) ?_ 0 _ rfl; (with_reducible repeat (first | refine blk_drewN ?_ _ | refine blk_drew ?_ | refine blk_alloc ?_ _)); exact BK119.out))⟩; have n7_ : Aside0 (Below w.heap.size w w27) := ⟨(by rw [hw]; exact (by repeat (first | (with_reducible first | exact HB.out | apply below_alloc | apply pw_below_drewN | apply below_drew1 | refine below_set ?_ GE113.out | refine below_set ?_ GE114.out | refine below_set ?_ GE119.out) | exact HB.out)))⟩; clear hw; clear HO_3; clear HO_17; clear HO_114003; clear HL118_3; clear BK113; clear BK114; clear BK119; clear HB; have HO_3 := n0_; have HO_17 := n1_; have HO_114003 := n2_; have HL118_3 := n3_; have BK113 := n4_; have BK114 := n5_; have BK119 := n6_; have HB := n7_; clear n0_ n1_ n2_ n3_ n4_ n5_ n6_ n7_; have hcz28_0 : w27.cell? ⟨gb119, 0, none⟩ = some (.int .u8 ((rd_T27 l0_3 x19_1).f0)) := (blk_cell BK119.out 0).trans rfl; have hcz28_1 : w27.cell? ⟨gb119, 1, none⟩ = some (.int .i64 ((rd_T27 l0_3 x19_1).f1)) := (blk_cell BK119.out 1).trans rfl; have hcz28_2 : w27.cell? ⟨gb119, 2, none⟩ = some (.string ((rd_T27 l0_3 x19_1).f2)) := (blk_cell BK119.out 2).trans rfl; have hcz28_3 : w27.cell? ⟨gb119, 3, none⟩ = some (.slice A118_3 ((rd_T27 l0_3 x19_1).f3).length c118_3) := (blk_cell BK119.out 3).trans rfl; have hcz28_4 : w27.cell? ⟨gb119, 4, none⟩ = some (.int .i64 ((rd_T27 l0_3 x19_1).f4)) := (blk_cell BK119.out 4).trans rfl; have hfz28_0 := blk_frozen BK119.out 0; have hfz28_1 := blk_frozen BK119.out 1; have hfz28_2 := blk_frozen BK119.out 2; have hfz28_3 := blk_frozen BK119.out 3; have hfz28_4 := blk_frozen BK119.out 4) | ((with_reducible refine gate_callee (f := 56) rfl ?_); refine goesL_ (some 27) rfl rfl Try.func56 (by kernel_rfl) rfl #[.agg #[.int .u8 ((rd_T27 l0_3 x19_1).f0), .int .i64 ((rd_T27 l0_3 x19_1).f1), .string ((rd_T27 l0_3 x19_1).f2), .slice A118_3 ((rd_T27 l0_3 x19_1).f3).length c118_3, .int .i64 ((rd_T27 l0_3 x19_1).f4)]] rfl (by (try simp only [List.map_toArray, List.map_cons, List.map_nil]); first | done | rfl | (simp only [List.length_drop, List.length_take]; rfl)) ?_; (with_reducible refine (ih k1 (by have := HK1.out; omega) ((rd_T27 l0_3 x19_1).f0) ((rd_T27 l0_3 x19_1).f1) ((rd_T27 l0_3 x19_1).f2) (fun k_ => ((P0_3_ k_ ∨ w.heap.size ≤ k_) ∧ (some k_ ≠ (v116 : Value).ownBlock ∧ (k_ ≠ gb113 ∧ (k_ ≠ gb114 ∧ k_ ≠ gb119))))) _ _ ((rd_T27 l0_3 x19_1).f3) ((rd_T27 l0_3 x19_1).f4) t120 t121 t122 t123 t126 _ ?side1 A20.out).mono ?_); (case side1 => exact HL118_3.out); rintro e w29 ⟨v124, rfl, ho0, hb⟩; obtain ⟨A124, c124, rfl⟩ := Kd.R_slice ho0; refine ⟨_, rfl, ?_⟩; have n0_ := Aside0.mk (Kd.R_elder' (by (with_reducible repeat (first | apply Kd.R_alloc | apply Kd.R_drewN | apply Kd.R_drew)); exact HO_3.out) (Kd.R_base ho0) hb); have n1_ := Aside0.mk (Kd.V_elder' (by (with_reducible repeat (first | apply Kd.V_alloc | apply Kd.V_drewN | apply Kd.V_drew)); exact HO_17.out) (Kd.R_base ho0) hb); have n2_ := Aside0.mk (Kd.V_elder' (by (with_reducible repeat (first | apply Kd.V_alloc | apply Kd.V_drewN | apply Kd.V_drew)); exact HO_114003.out) (Kd.R_base ho0) hb); have n3_ := Aside0.mk (Kd.V_elder' (by (with_reducible repeat (first | apply Kd.V_alloc | apply Kd.V_drewN | apply Kd.V_drew)); exact HL118_3.out) (Kd.R_base ho0) hb); have n4_ := Aside0.mk (Kd.R_lower (Kd.R_newB (Kd.R_newB (Kd.R_newB (Kd.R_new' (Kd.R_newM (M := fun k_ => (w.heap.size ≤ k_)) (Kd.R_mono (ok' := fun k_ => True) ho0 (fun _ hk_ => trivial)) (below_size (by repeat (first | (with_reducible first | exact HB.out | apply below_alloc | apply pw_below_drewN | apply below_drew1 | refine below_set ?_ GE113.out | refine below_set ?_ GE114.out | refine below_set ?_ GE119.out) | exact HB.out))) (fun k_ h_ => h_)) (Kd.R_lt (by (with_reducible repeat (first | apply Kd.R_alloc | apply Kd.R_drewN | apply Kd.R_drew)); exact HO_3.out))) (g := gb113) (o := .cells #[.int .u8 x114000_1, .int .i64 x114001_1, .string x114002_1, u114003, .int .i64 x114004_1] 27 (0, 0)) (by (with_reducible repeat (first | refine blk_drewN ?_ _ | refine blk_drew ?_ | refine blk_alloc ?_ _)); exact BK113.out)) (g := gb114) (o := .cells #[.int .u8 x115000_1, .int .i64 x115001_1, .string x115002_1, .slice none 0 0, .int .i64 x115004_1] 27 (0, 0)) (by (with_reducible repeat (first | refine blk_drewN ?_ _ | refine blk_drew ?_ | refine blk_alloc ?_ _)); exact BK114.out)) (g := gb119) (o := .cells #[.int .u8 ((rd_T27 l0_3 x19_1).f0), .int .i64 ((rd_T27 l0_3 x19_1).f1), .string ((rd_T27 l0_3 x19_1).f2), .slice A118_3 ((rd_T27 l0_3 x19_1).f3).length c118_3, .int .i64 ((rd_T27 l0_3 x19_1).f4)] 27 (0, 0)) (by (with_reducible repeat (first | refine blk_drewN ?_ _ | refine blk_drew ?_ | refine blk_alloc ?_ _)); exact BK119.out)) (below_size (by repeat (first | (with_reducible first | exact HB.out | apply below_alloc | apply pw_below_drewN | apply below_drew1 | refine below_set ?_ GE113.out | refine below_set ?_ GE114.out | refine below_set ?_ GE119.out) | exact HB.out)))); have n5_ := Aside0.mk (blk_below (g := gb113) (o := .cells #[.int .u8 x114000_1, .int .i64 x114001_1, .string x114002_1, u114003, .int .i64 x114004_1] 27 (0, 0)) (by (with_reducible repeat (first | refine blk_drewN ?_ _ | refine blk_drew ?_ | refine blk_alloc ?_ _)); exact BK113.out) hb); have n6_ := Aside0.mk (blk_below (g := gb114) (o := .cells #[.int .u8 x115000_1, .int .i64 x115001_1, .string x115002_1, .slice none 0 0, .int .i64 x115004_1] 27 (0, 0)) (by (with_reducible repeat (first | refine blk_drewN ?_ _ | refine blk_drew ?_ | refine blk_alloc ?_ _)); exact BK114.out) hb); have n7_ := Aside0.mk (Kd.C_below (Kd.V_reads' HL118_3.out).2.2 hb); have n8_ := Aside0.mk (blk_below (g := gb119) (o := .cells #[.int .u8 ((rd_T27 l0_3 x19_1).f0), .int .i64 ((rd_T27 l0_3 x19_1).f1), .string ((rd_T27 l0_3 x19_1).f2), .slice A118_3 ((rd_T27 l0_3 x19_1).f3).length c118_3, .int .i64 ((rd_T27 l0_3 x19_1).f4)] 27 (0, 0)) (by (with_reducible repeat (first | refine blk_drewN ?_ _ | refine blk_drew ?_ | refine blk_alloc ?_ _)); exact BK119.out) hb); have n9_ := Aside0.mk (below_step (by repeat (first | (with_reducible first | exact HB.out | apply below_alloc | apply pw_below_drewN | apply below_drew1 | refine below_set ?_ GE113.out | refine below_set ?_ GE114.out | refine below_set ?_ GE119.out) | exact HB.out)) hb); clear HO_3; clear HO_17; clear HO_114003; clear HL118_3; clear BK113; clear BK114; clear HR118_3; clear BK119; clear HB; have HO_3 := n0_; have HO_17 := n1_; have HO_114003 := n2_; have HL118_3 := n3_; have HO125 := n4_; have BK113 := n5_; have BK114 := n6_; have HR118_3 := n7_; have BK119 := n8_; have HB := n9_; clear n0_ n1_ n2_ n3_ n4_ n5_ n6_ n7_ n8_ n9_; (try clear hb); (try clear hb2); (try clear hk); (try clear hi); (try clear ho0); have p22 : 0 ≤ (x19_1 : Int) := of_decide_eq_true (by first | (with_reducible assumption) | assumption); have q22 : (x19_1 : Int) < ((x3_1.length : Int) : Int) := of_decide_eq_true (by first | (with_reducible assumption) | assumption); obtain ⟨go22, co22, eo22, gb22, gl22, cl22, HG22⟩ := Kd.R_form HO_3.out (by omega); (first | cases eo22 | (injection eo22 with ea_ en_ ec_; (first | subst ea_ | (injection ea_ with ea_; subst ea_)); subst ec_; clear en_)); have GB22 := Aside0.mk gb22; have GG22 := Aside0.mk HG22; clear gb22 gl22 HG22; obtain ⟨ce22, hcl22, hM22, hcc22, hfr22⟩ := Kd.R_elem HO_3.out z27 (x19_1 : Int) p22 q22; obtain ⟨ve22_3, rfl, ge22_3⟩ := k27_openM hM22; have hx22_0 : w29.cell? ⟨go22, (x19_1 : Int).toNat * 5, none⟩ = some (.int .u8 ((rd_T27 x3_1 x19_1).f0)) := hcc22 0 _ rfl; have hx22_1 : w29.cell? ⟨go22, (x19_1 : Int).toNat * 5 + 1, none⟩ = some (.int .i64 ((rd_T27 x3_1 x19_1).f1)) := hcc22 1 _ rfl; have hx22_2 : w29.cell? ⟨go22, (x19_1 : Int).toNat * 5 + 2, none⟩ = some (.string ((rd_T27 x3_1 x19_1).f2)) := hcc22 2 _ rfl; have hx22_3 : w29.cell? ⟨go22, (x19_1 : Int).toNat * 5 + 3, none⟩ = some (ve22_3) := hcc22 3 _ rfl; have hx22_4 : w29.cell? ⟨go22, (x19_1 : Int).toNat * 5 + 4, none⟩ = some (.int .i64 ((rd_T27 x3_1 x19_1).f4)) := hcc22 4 _ rfl; have hf22_0 : w29.frozen? ⟨go22, (x19_1 : Int).toNat * 5, none⟩ = false := hfr22 0; have hf22_1 : w29.frozen? ⟨go22, (x19_1 : Int).toNat * 5 + 1, none⟩ = false := hfr22 1; have hf22_2 : w29.frozen? ⟨go22, (x19_1 : Int).toNat * 5 + 2, none⟩ = false := hfr22 2; have hf22_3 : w29.frozen? ⟨go22, (x19_1 : Int).toNat * 5 + 3, none⟩ = false := hfr22 3; have hf22_4 : w29.frozen? ⟨go22, (x19_1 : Int).toNat * 5 + 4, none⟩ = false := hfr22 4; clear hcl22 hcc22 hfr22 hM22; replace p22 := eq_true p22; replace q22 := eq_true q22; have n_ := Aside0.mk (Kd.R_mono (ok' := (fun k_ => (w.heap.size ≤ k_) ∧ some k_ ≠ ((Value.slice A124 t123.length c124) : Value).ownBlock ∧ k_ ≠ gb113 ∧ k_ ≠ gb114 ∧ k_ ≠ gb119)) HO_3.out (fun k_ hk => ⟨hk.1.1, ⟨hk.2, ⟨hk.1.2.1, ⟨hk.1.2.2.1, hk.1.2.2.2⟩⟩⟩⟩)); clear HO_3; have HO_3 := n_; clear n_; have HX30 := Aside0.mk (show Kd.R k27 27 w29 w.heap.size (fun k_ => (w.heap.size ≤ k_) ∧ k_ ≠ gb113 ∧ k_ ≠ gb114 ∧ k_ ≠ gb119) (.slice (some ⟨go22, 0, none⟩) x3_1.length co22) x3_1 from (by (with_reducible repeat (first | apply Kd.R_alloc | apply Kd.R_drewN | apply Kd.R_drew)); exact Kd.R_mono HO_3.out (fun _ hk => ⟨hk.1, ⟨hk.2.2.1, ⟨hk.2.2.2.1, hk.2.2.2.2⟩⟩⟩))); obtain ⟨ce30, hcl30, hM30, hcc30, hfr30⟩ := Kd.R_elem HX30.out z27 (x19_1 : Int) (of_decide_eq_true (by first | (with_reducible assumption) | assumption)) (by have h_ : (x19_1 : Int) < ((x3_1.length : Int) : Int) := of_decide_eq_true (by first | (with_reducible assumption) | assumption); first | exact h_ | (have e_ := (Kd.R_reads' HO_3.out).1; omega) | simpa using h_); obtain ⟨ve30_3, rfl, ge30_3⟩ := k27_openM hM30; have HP30 := Kd.R_seg HX30.out (x19_1 : Int) (of_decide_eq_true (by first | (with_reducible assumption) | assumption)) (by have h_ : (x19_1 : Int) < ((x3_1.length : Int) : Int) := of_decide_eq_true (by first | (with_reducible assumption) | assumption); first | exact h_ | (have e_ := (Kd.R_reads' HO_3.out).1; omega) | simpa using h_) (seg := [.int .u8 t120, .int .i64 t121, .string t122, (Value.slice A124 t123.length c124), .int .i64 t126]) (j := 0) hcl30 hcc30 (show 5 ≤ 5 from by decide) (x' := (⟨t120, t121, t122, t123, t126⟩ : S27)) (k27_mkM _ _ _ (⟨t120, t121, t122, t123, t126⟩ : S27) (Kd.R_mono (HO125.out) (fun k_ hk => ⟨⟨hk.1.1.1.1.1, ⟨hk.1.1.2, ⟨hk.1.2, hk.2⟩⟩⟩, fun e_ => (hk.1.1.1.2) (by rw [e_]; rfl)⟩))) (fun _ hk => hk); have hx30_0 := hcc30 0 _ rfl; (try simp only [show (k27).sz = 5 from rfl, Nat.mul_one, Nat.add_zero] at hx30_0); have hf30_0 := hfr30 0; (try simp only [show (k27).sz = 5 from rfl, Nat.mul_one, Nat.add_zero] at hf30_0); have hx30_1 := hcc30 1 _ rfl; (try simp only [show (k27).sz = 5 from rfl, Nat.mul_one, Nat.add_zero] at hx30_1); have hf30_1 := hfr30 1; (try simp only [show (k27).sz = 5 from rfl, Nat.mul_one, Nat.add_zero] at hf30_1); have hx30_2 := hcc30 2 _ rfl; (try simp only [show (k27).sz = 5 from rfl, Nat.mul_one, Nat.add_zero] at hx30_2); have hf30_2 := hfr30 2; (try simp only [show (k27).sz = 5 from rfl, Nat.mul_one, Nat.add_zero] at hf30_2); have hx30_3 := hcc30 3 _ rfl; (try simp only [show (k27).sz = 5 from rfl, Nat.mul_one, Nat.add_zero] at hx30_3); have hf30_3 := hfr30 3; (try simp only [show (k27).sz = 5 from rfl, Nat.mul_one, Nat.add_zero] at hf30_3); have hx30_4 := hcc30 4 _ rfl; (try simp only [show (k27).sz = 5 from rfl, Nat.mul_one, Nat.add_zero] at hx30_4); have hf30_4 := hfr30 4; (try simp only [show (k27).sz = 5 from rfl, Nat.mul_one, Nat.add_zero] at hf30_4); clear hcl30 hcc30 hfr30 hM30) | ((with_reducible refine gate_store (t := 27) (p := 28) rfl ?_); refine store_event (t := 27) (p := 28) (v := ?vo_w31) (w1 := (((((w29.setCell ⟨go22, (x19_1 : Int).toNat * 5, none⟩ (.int .u8 t120)).setCell ⟨go22, (x19_1 : Int).toNat * 5 + 1, none⟩ (.int .i64 t121)).setCell ⟨go22, (x19_1 : Int).toNat * 5 + 2, none⟩ (.string t122)).setCell ⟨go22, (x19_1 : Int).toNat * 5 + 3, none⟩ ((Value.slice A124 t123.length c124))).setCell ⟨go22, (x19_1 : Int).toNat * 5 + 4, none⟩ (.int .i64 t126))) ?hg ?ho ?hn ?hr ?_; (case ho => rfl); (case hg => rfl); (case hn => rfl); (case hr => first | (go_simp; done) | (go_simp; rfl)); intro w31 hw; have hg : w29.grownBy w31 (some go22) := (by rw [hw]; exact HP30.2); have hp_ : Kd.R k27 27 w31 w.heap.size (fun k_ => (w.heap.size ≤ k_) ∧ k_ ≠ gb113 ∧ k_ ≠ gb114 ∧ k_ ≠ gb119) (.slice (some ⟨go22, 0, none⟩) x3_1.length co22) y127 := (by rw [hw, Ny127.out]; exact HP30.1); clear HP30; have n0_ := Aside0.mk (hp_); have n1_ := Aside0.mk (Kd.V_afterv (v := (.slice (some ⟨go22, 0, none⟩) x3_1.length co22)) (v1 := (.slice (some ⟨go22, 0, none⟩) x3_1.length co22)) (ok := (fun k_ => (P0_3_ k_ ∨ w.heap.size ≤ k_) ∧ some k_ ≠ ((Value.slice A124 t123.length c124) : Value).ownBlock ∧ k_ ≠ gb113 ∧ k_ ≠ gb114 ∧ k_ ≠ gb119)) (by (with_reducible repeat (first | apply Kd.V_alloc | apply Kd.V_drewN | apply Kd.V_drew)); exact Kd.V_mono HO_17.out (fun _ hk => ⟨⟨hk.1.1, ⟨hk.2, ⟨hk.1.2.2.1, ⟨hk.1.2.2.2.1, hk.1.2.2.2.2⟩⟩⟩⟩, hk.1.2.1⟩)) hg (.inl rfl)); have n2_ := Aside0.mk (Kd.V_afterv (v := (.slice (some ⟨go22, 0, none⟩) x3_1.length co22)) (v1 := (.slice (some ⟨go22, 0, none⟩) x3_1.length co22)) (ok := (fun k_ => (P0_3_ k_ ∨ w.heap.size ≤ k_) ∧ some k_ ≠ ((Value.slice A124 t123.length c124) : Value).ownBlock ∧ k_ ≠ gb113 ∧ k_ ≠ gb114 ∧ k_ ≠ gb119)) (by (with_reducible repeat (first | apply Kd.V_alloc | apply Kd.V_drewN | apply Kd.V_drew)); exact Kd.V_mono HO_114003.out (fun _ hk => ⟨⟨hk.1.1, ⟨hk.2, ⟨hk.1.2.2.1, ⟨hk.1.2.2.2.1, hk.1.2.2.2.2⟩⟩⟩⟩, hk.1.2.1⟩)) hg (.inl rfl)); have n3_ := Aside0.mk (blk_grown (g := gb113) (o := .cells #[.int .u8 x114000_1, .int .i64 x114001_1, .string x114002_1, u114003, .int .i64 x114004_1] 27 (0, 0)) (by (with_reducible repeat (first | refine blk_drewN ?_ _ | refine blk_drew ?_ | refine blk_alloc ?_ _)); exact BK113.out) hg (Kd.R_away HO_3.out (fun _ hk => hk.2.2.1))); have n4_ := Aside0.mk (blk_grown (g := gb114) (o := .cells #[.int .u8 x115000_1, .int .i64 x115001_1, .string x115002_1, .slice none 0 0, .int .i64 x115004_1] 27 (0, 0)) (by (with_reducible repeat (first | refine blk_drewN ?_ _ | refine blk_drew ?_ | refine blk_alloc ?_ _)); exact BK114.out) hg (Kd.R_away HO_3.out (fun _ hk => hk.2.2.2.1))); have n5_ := Aside0.mk (Kd.V_afterv (v := (.slice (some ⟨go22, 0, none⟩) x3_1.length co22)) (v1 := (.slice (some ⟨go22, 0, none⟩) x3_1.length co22)) (ok := (fun k_ => (P0_3_ k_ ∨ w.heap.size ≤ k_) ∧ some k_ ≠ ((Value.slice A124 t123.length c124) : Value).ownBlock ∧ k_ ≠ gb113 ∧ k_ ≠ gb114 ∧ k_ ≠ gb119)) (by (with_reducible repeat (first | apply Kd.V_alloc | apply Kd.V_drewN | apply Kd.V_drew)); exact Kd.V_mono HL118_3.out (fun _ hk => ⟨⟨hk.1.1, ⟨hk.2, ⟨hk.1.2.2.1, ⟨hk.1.2.2.2.1, hk.1.2.2.2.2⟩⟩⟩⟩, hk.1.2.1⟩)) hg (.inl rfl)); have n6_ := Aside0.mk (blk_grown (g := gb119) (o := .cells #[.int .u8 ((rd_T27 l0_3 x19_1).f0), .int .i64 ((rd_T27 l0_3 x19_1).f1), .string ((rd_T27 l0_3 x19_1).f2), .slice A118_3 ((rd_T27 l0_3 x19_1).f3).length c118_3, .int .i64 ((rd_T27 l0_3 x19_1).f4)] 27 (0, 0)) (by (with_reducible repeat (first | refine blk_drewN ?_ _ | refine blk_drew ?_ | refine blk_alloc ?_ _)); exact BK119.out) hg (Kd.R_away HO_3.out (fun _ hk => hk.2.2.2.2))); have n7_ := Aside0.mk ((by rw [hw]; exact below_set (below_set (below_set (below_set (below_set (HB.out) GB22.out) GB22.out) GB22.out) GB22.out) GB22.out : Below w.heap.size w w31)); clear HO_3; clear HO_17; clear HO_114003; clear BK113; clear BK114; clear HL118_3; clear BK119; clear HB; clear HO125; have HO_3 := n0_; have HO_17 := n1_; have HO_114003 := n2_; have BK113 := n3_; have BK114 := n4_; have HL118_3 := n5_; have BK119 := n6_; have HB := n7_; clear n0_ n1_ n2_ n3_ n4_ n5_ n6_ n7_; clear hg hw hp_))
                    go_roundg k1
                    case measure => have := HK1.out; omega
                    case rel => exact ⟨(y127), (wrap64 (x19_1 + 1)), (x114000_1), (x114001_1), (x114002_1), (x114003_1), (x114004_1), (x115000_1), (x115001_1), (x115002_1), (x115004_1), (u114003), (by first | rfl | (simp; done) | (simp [*]; done)), H', ⟨by have := HK1.out; omega⟩, ⟨by (with_reducible repeat (first | apply Kd.R_alloc | apply Kd.R_drewN | apply Kd.R_drew)); exact Kd.R_mono HO_3.out (fun _ hk => ⟨hk.1, ⟨hk.2.1, hk.2.2.1⟩⟩)⟩, ⟨by (with_reducible repeat (first | apply Kd.V_alloc | apply Kd.V_drewN | apply Kd.V_drew)); exact Kd.V_mono HO_17.out (fun _ hk => ⟨hk.1.1, ⟨hk.2, ⟨hk.1.2.2.1, hk.1.2.2.2.1⟩⟩⟩)⟩, ⟨by (with_reducible repeat (first | apply Kd.V_alloc | apply Kd.V_drewN | apply Kd.V_drew)); exact Kd.V_mono HO_114003.out (fun _ hk => ⟨hk.1.1, ⟨hk.2, ⟨hk.1.2.2.1, hk.1.2.2.2.1⟩⟩⟩)⟩, ⟨by (with_reducible repeat (first | refine blk_drewN ?_ _ | refine blk_drew ?_ | refine blk_alloc ?_ _)); exact BK113.out⟩, ⟨by (with_reducible repeat (first | refine blk_drewN ?_ _ | refine blk_drew ?_ | refine blk_alloc ?_ _)); exact BK114.out⟩, ⟨by repeat (first | (with_reducible first | exact HB.out | apply below_alloc | apply pw_below_drewN | apply below_drew1 | refine below_set ?_ GE113.out | refine below_set ?_ GE114.out | refine below_set ?_ GE119.out) | exact HB.out)⟩⟩
                  · rw [if_neg c21] at H
                    exact absurd H (by simp)
                · rw [if_neg c19] at H
                  exact absurd H (by simp)
              · rw [if_neg c18] at H
                exact absurd H (by simp)
            · rw [if_neg c17] at H
              have c17b0 : decide (x19_1 < (l0_3.length : Int)) = false := decide_eq_false c17
              clear c17
              simp only [Option.some.injEq, Prod.mk.injEq] at H
              obtain ⟨rfl, rfl, rfl, rfl, rfl⟩ := H
              obtain ⟨Ao32, co32, eo32⟩ := Kd.R_slice HO_3.out
              subst eo32
              have hnb33 := NB113_114.out
              have hnc33 := NB114_113.out
              have hcz34_0 : wr.cell? ⟨gb113, 0, none⟩ = some (.int .u8 x114000_1) := (blk_cell BK113.out 0).trans rfl
              have hcz34_1 : wr.cell? ⟨gb113, 1, none⟩ = some (.int .i64 x114001_1) := (blk_cell BK113.out 1).trans rfl
              have hcz34_2 : wr.cell? ⟨gb113, 2, none⟩ = some (.string x114002_1) := (blk_cell BK113.out 2).trans rfl
              have hcz34_3 : wr.cell? ⟨gb113, 3, none⟩ = some (u114003) := (blk_cell BK113.out 3).trans rfl
              have hcz34_4 : wr.cell? ⟨gb113, 4, none⟩ = some (.int .i64 x114004_1) := (blk_cell BK113.out 4).trans rfl
              have hfz34_0 := blk_frozen BK113.out 0
              have hfz34_1 := blk_frozen BK113.out 1
              have hfz34_2 := blk_frozen BK113.out 2
              have hfz34_3 := blk_frozen BK113.out 3
              have hfz34_4 := blk_frozen BK113.out 4
              have hcz35_0 : wr.cell? ⟨gb114, 0, none⟩ = some (.int .u8 x115000_1) := (blk_cell BK114.out 0).trans rfl
              have hcz35_1 : wr.cell? ⟨gb114, 1, none⟩ = some (.int .i64 x115001_1) := (blk_cell BK114.out 1).trans rfl
              have hcz35_2 : wr.cell? ⟨gb114, 2, none⟩ = some (.string x115002_1) := (blk_cell BK114.out 2).trans rfl
              have hcz35_3 : wr.cell? ⟨gb114, 3, none⟩ = some (.slice none 0 0) := (blk_cell BK114.out 3).trans rfl
              have hcz35_4 : wr.cell? ⟨gb114, 4, none⟩ = some (.int .i64 x115004_1) := (blk_cell BK114.out 4).trans rfl
              have hfz35_0 := blk_frozen BK114.out 0
              have hfz35_1 := blk_frozen BK114.out 1
              have hfz35_2 := blk_frozen BK114.out 2
              have hfz35_3 := blk_frozen BK114.out 3
              have hfz35_4 := blk_frozen BK114.out 4
              go_wp2
              refine bodyPost_ret (results_cell_row rfl _ _ gb114 27 #[.int .u8 x114000_1, .int .i64 x114001_1, .string x114002_1, .slice Ao32 x3_1.length co32, .int .i64 x114004_1] (0, 0) _ rfl (by (with_reducible repeat (first | refine blk_drewN ?_ _ | refine blk_drew ?_ | refine blk_alloc ?_ _)); refine blk_put (cs := #[.int .u8 x114000_1, .int .i64 x114001_1, .string x114002_1, .slice Ao32 x3_1.length co32, .int .i64 x115004_1]) ?_ 4 _ rfl; (with_reducible repeat (first | refine blk_drewN ?_ _ | refine blk_drew ?_ | refine blk_alloc ?_ _)); refine blk_put (cs := #[.int .u8 x114000_1, .int .i64 x114001_1, .string x114002_1, .slice none 0 0, .int .i64 x115004_1]) ?_ 3 _ rfl; (with_reducible repeat (first | refine blk_drewN ?_ _ | refine blk_drew ?_ | refine blk_alloc ?_ _)); refine blk_put (cs := #[.int .u8 x114000_1, .int .i64 x114001_1, .string x115002_1, .slice none 0 0, .int .i64 x115004_1]) ?_ 2 _ rfl; (with_reducible repeat (first | refine blk_drewN ?_ _ | refine blk_drew ?_ | refine blk_alloc ?_ _)); refine blk_put (cs := #[.int .u8 x114000_1, .int .i64 x115001_1, .string x115002_1, .slice none 0 0, .int .i64 x115004_1]) ?_ 1 _ rfl; (with_reducible repeat (first | refine blk_drewN ?_ _ | refine blk_drew ?_ | refine blk_alloc ?_ _)); refine blk_put (cs := #[.int .u8 x115000_1, .int .i64 x115001_1, .string x115002_1, .slice none 0 0, .int .i64 x115004_1]) ?_ 0 _ rfl; (with_reducible repeat (first | refine blk_drewN ?_ _ | refine blk_drew ?_ | refine blk_alloc ?_ _)); refine blk_far ?_ NB114_113.out _; (with_reducible repeat (first | refine blk_drewN ?_ _ | refine blk_drew ?_ | refine blk_alloc ?_ _)); exact BK114.out) Try.underlying27 rfl (by kernel_rfl)) rfl ?_
              exact ⟨_, by first | rfl | (simp [errW_none, errW_some] <;> rfl) | (simp [*, errW_none, errW_some] <;> rfl), by (with_reducible repeat (first | apply Kd.R_alloc | apply Kd.R_drewN | apply Kd.R_drew)); exact Kd.R_mono (Kd.R_far (p := ⟨gb114, 4, none⟩) (Kd.R_far (p := ⟨gb114, 3, none⟩) (Kd.R_far (p := ⟨gb114, 2, none⟩) (Kd.R_far (p := ⟨gb114, 1, none⟩) (Kd.R_far (p := ⟨gb114, 0, none⟩) (Kd.R_far (p := ⟨gb113, 3, none⟩) (Kd.R_mono (Kd.R_mono HO_3.out (fun k_ hk => (⟨hk, hk.2.1⟩ : _ ∧ k_ ≠ gb113))) (fun k_ hk => (⟨hk, hk.1.2.2⟩ : _ ∧ k_ ≠ gb114))) (fun _ hk => hk.1.2) (.slice Ao32 x3_1.length co32)) (fun _ hk => hk.2) (.int .u8 x114000_1)) (fun _ hk => hk.2) (.int .i64 x114001_1)) (fun _ hk => hk.2) (.string x114002_1)) (fun _ hk => hk.2) (.slice Ao32 x3_1.length co32)) (fun _ hk => hk.2) (.int .i64 x114004_1)) (fun _ hk => hk.1.1.1), by repeat (first | (with_reducible first | exact HB.out | apply below_alloc | apply pw_below_drewN | apply below_drew1 | refine below_set ?_ GE113.out | refine below_set ?_ GE114.out) | exact HB.out)⟩
      · rw [if_neg c9] at H
        exact absurd H (by simp)
    · rw [if_neg c8] at H
      exact absurd H (by simp)

-- NOT PRINTED: function 53 (value_Own)

-- NOT PRINTED: function 40 (brand_own)

-- NOT PRINTED: function 15 (brand_Table_Put)

-- NOT PRINTED: function 17 (brand_Table_Len)

end Go.Proofs.Ythkemcekcfccpaa.PBrandCompares

namespace Go.Proofs.Ythkemcekcfccpaa.PBrandCompares
open Go.RowKit Go.Proofs.YthkemcekcfccpaaW.PrintWords Go.Proofs.YthkemcekcfccpaaW.PrintLast Go.Proofs.YthkemcekcfccpaaW.PrintMore
open Go.Proofs.Ythkemcekcfccpaa.GBrandCompares
set_option linter.unusedVariables false
set_option linter.unusedSimpArgs false

/-- nested at most so deep, and no list longer than 511, whatever the kinds -/
def Small : Nat → S27 → Prop
  | 0, x => x.f3 = []
  | n + 1, x => x.f3.length ≤ 511 ∧ ∀ y ∈ x.f3, Small n y

theorem small_nil {x : S27} (h : x.f3 = []) (n : Nat) : Small n x := by
  cases n with
  | zero => exact h
  | succ n => simp [Small, h]

theorem take_small (n : Nat) : (∀ x : S27, SizeOf.sizeOf x ≤ n → ∀ p d, 0 ≤ p → p ≤ 512 → 0 ≤ d → (takeV x p d).1 = true → Small d.toNat x) ∧
    (∀ l : List S27, SizeOf.sizeOf l ≤ n → ∀ p d, 0 ≤ p → p ≤ 512 → 0 ≤ d → (takeL l p d).1 = true → ∀ y ∈ l, Small d.toNat y) := by
  induction n with
  | zero =>
    refine ⟨fun x hx => ?_, fun l hl => ?_⟩
    · cases x; simp at hx
    · cases l <;> simp at hl
  | succ n ih =>
    refine ⟨fun x hx p d hp hp2 hd ht => ?_, fun l hl p d hp hp2 hd ht => ?_⟩
    · by_cases hz : p = 0
      · rw [takeV_z hz] at ht; simp at ht
      by_cases h3 : x.f0 = 3
      · rw [takeV_3 hz h3] at ht
        split at ht
        · simp at ht
        · rename_i hn
          have hd1 : 1 ≤ d := by omega
          obtain ⟨m, hm⟩ : ∃ m, d.toNat = m + 1 := ⟨d.toNat - 1, by omega⟩
          rw [hm]
          refine ⟨by omega, ?_⟩
          have hs : SizeOf.sizeOf x.f3 ≤ n := by cases x; simp at hx ⊢; omega
          have h := ih.2 x.f3 hs (p - 1) (d - 1) (by omega) (by omega) (by omega)
          rw [show (d - 1).toNat = m by omega] at h
          apply h
          generalize takeL x.f3 (p - 1) (d - 1) = t at ht
          obtain ⟨b, p', d'⟩ := t
          cases b
          · simp at ht
          · rfl
      · have hnil : x.f3 = [] := by
          by_cases h0 : x.f0 = 0
          · rw [takeV_0 hz h0] at ht; simp at ht; exact ht.2.2.2
          by_cases h1 : x.f0 = 1
          · rw [takeV_1 hz h1] at ht; simp at ht; exact ht.2.2
          by_cases h2 : x.f0 = 2
          · rw [takeV_2 hz h2] at ht
            split at ht
            · simp at ht
            · simp at ht; exact ht.2.2
          by_cases h4 : x.f0 = 4
          · rw [takeV_4 hz h4] at ht
            split at ht
            · simp at ht
            · simp at ht; exact ht.2.2
          rw [takeV_5 hz h0 h1 h2 h4 h3] at ht; simp at ht
        exact small_nil hnil _
    · cases l with
      | nil => simp
      | cons x l =>
        have hx : SizeOf.sizeOf x ≤ n := by simp at hl; omega
        have hl : SizeOf.sizeOf l ≤ n := by simp at hl; omega
        unfold takeL at ht
        have hb := takeV_bounds x hp hd
        have h1 := ih.1 x hx p d hp hp2 hd
        generalize takeV x p d = t at ht hb h1
        obtain ⟨b, p', d'⟩ := t
        cases b
        · simp at ht
        · dsimp only at ht hb h1
          have h5 := hb.2.2.2.2 rfl
          subst h5
          have h2 := ih.2 l hl p' d' hb.1 (by omega) hd ht
          intro y hy
          rcases List.mem_cons.1 hy with rfl | hy
          · exact h1 rfl
          · exact h2 y hy

theorem may_small {x : S27} (h : mayV x = true) : Small 16 x := by
  refine (take_small _).1 x (Nat.le_refl _) 512 16 (by omega) (by omega) (by omega) ?_
  simp only [mayV, measureV, decide_eq_true_eq] at h
  split at h
  · assumption
  · simp at h

theorem le_own {j k : Nat} (h : j ≤ k) {x : S27} {r : Int × Int × ByteArray × List S27 × Int} (hr : value_own.f j x.f0 x.f1 x.f2 x.f3 x.f4 = some r) : value_own.f k x.f0 x.f1 x.f2 x.f3 x.f4 = some r := by
  induction h with
  | refl => exact hr
  | step _ ih => exact value_own.mono _ _ _ _ _ _ _ ih

/-- the loop, from element i on -/
theorem own_loop (xs : List S27) (hlen : xs.length ≤ 511) (a b : Int) (s : ByteArray) (r : Int) (l0 : List S27) (K : Nat) (hK : ∀ y ∈ xs, value_own.f K y.f0 y.f1 y.f2 y.f3 y.f4 = some (y.f0, y.f1, y.f2, y.f3, y.f4)) :
    ∀ (m i : Nat) (ys : List S27), i + m = xs.length → ys.length = xs.length → ys.take i = xs.take i →
      value_own.l0 (K + m + 1) ys xs (xs.length : Int) (i : Int) a b s l0 r = some (a, b, s, xs, r) := by
  intro m
  induction m with
  | zero =>
    intro i ys hi hy ht
    unfold value_own.l0
    rw [if_neg (by omega)]
    have : ys = xs := by
      have h1 : ys.take i = ys := List.take_of_length_le (by omega)
      have h2 : xs.take i = xs := List.take_of_length_le (by omega)
      rw [← h1, ht, h2]
    rw [this]
  | succ m ih =>
    intro i ys hi hy ht
    have hlt : i < xs.length := by omega
    rw [show K + (m + 1) + 1 = (K + m + 1) + 1 by omega]
    unfold value_own.l0
    rw [if_pos (by omega), if_pos (by omega), if_pos (by omega)]
    have hm := rd_mem (xs := xs) (i := i) hlt
    rw [le_own (x := rd_T27 xs (i : Int)) (show K ≤ K + m + 1 by omega) (hK _ hm)]
    simp only [Option.bind_some]
    rw [if_pos (by omega)]
    rw [show wrap64 ((i : Int) + 1) = ((i + 1 : Nat) : Int) by simp only [wrap64]; omega]
    refine ih (i + 1) _ (by omega) (by simpa using hy) ?_
    rw [Int.toNat_natCast]
    apply List.ext_getElem?
    intro j
    rw [List.getElem?_take, List.getElem?_take]
    by_cases hj : j < i + 1
    · rw [if_pos hj, if_pos hj]
      by_cases hji : i = j
      · subst hji
        rw [List.getElem?_set_self (by omega)]
        unfold rd_T27
        rw [Int.toNat_natCast, List.getD_eq_getElem?_getD, List.getElem?_eq_getElem hlt, Option.getD_some]
        generalize xs[i] = q
        cases q
        rfl
      · rw [List.getElem?_set_ne hji]
        have := congrArg (fun l => l[j]?) ht
        simp only [List.getElem?_take] at this
        rw [if_pos (by omega), if_pos (by omega)] at this
        exact this
    · rw [if_neg hj, if_neg hj]

theorem own_pure (n : Nat) : ∃ K, ∀ x : S27, Small n x → value_own.f K x.f0 x.f1 x.f2 x.f3 x.f4 = some (x.f0, x.f1, x.f2, x.f3, x.f4) := by
  induction n with
  | zero =>
    refine ⟨1, fun x hx => ?_⟩
    simp only [Small] at hx
    unfold value_own.f
    rw [hx]
    rfl
  | succ n ih =>
    obtain ⟨K, hK⟩ := ih
    refine ⟨K + 511 + 2, fun x hx => ?_⟩
    obtain ⟨hl, hy⟩ := hx
    unfold value_own.f
    split
    · rename_i h0
      rw [show x.f3 = [] from List.length_eq_zero_iff.1 (by omega)]
    · rw [if_pos (by omega), if_pos (by omega)]
      have h := own_loop x.f3 hl x.f0 x.f1 x.f2 x.f4 x.f3 (K + (511 - x.f3.length)) (fun y hm => le_own (by omega) (hK y (hy y hm))) x.f3.length 0 (List.replicate ((x.f3.length : Int)).toNat z27) (by omega) (by simp) (by simp)
      rw [show K + 511 + 1 = K + (511 - x.f3.length) + x.f3.length + 1 by omega]
      exact h

end Go.Proofs.Ythkemcekcfccpaa.PBrandCompares
