/- 'key' of package brand: which marks can be keys. -/
import Derived.Test.YthkemcekcfccpaaBrandComparesK1
import Derived.Test.YthkemcekcfccpaaBrandComparesG4
import Derived.Test.YthkemcekcfccpaaBrandComparesM1
import Derived.Test.YthkemcekcfccpaaBrandComparesH7
namespace Go.Proofs.Ythkemcekcfccpaa.PBrandCompares
open Go.RowKit Go.Proofs.YthkemcekcfccpaaW.PrintWords Go.Proofs.YthkemcekcfccpaaW.PrintLast Go.Proofs.YthkemcekcfccpaaW.PrintMore
open Go.Proofs.Ythkemcekcfccpaa.GBrandCompares
set_option linter.unusedVariables false
set_option linter.unusedSimpArgs false

theorem info3 : (Try.prog.info? 3).map (fun i => (i.zero, i.size, i.bytes)) = some (some (.int .i64 0), 1, 8) := by kernel_rfl

/-- a block written over -/
def setB (w : World) (r : Nat) (o : Obj) : World := { w with heap := w.heap.setIfInBounds r o }
theorem setB_blk {w : World} {r : Nat} {o o' : Obj} (h : w.heap[r]? = some o) : (setB w r o').heap[r]? = some o' := (Go.MapKept.heap_set h).1
theorem setB_ne (w : World) (r : Nat) (o : Obj) {b : Nat} (h : b ≠ r) : (setB w r o).heap[b]? = w.heap[b]? := by simp [setB, Ne.symm h]
theorem ex_setB {S : Nat → Prop} {w w1 : World} (h : Ex S w w1) {r : Nat} (hr : S r ∨ w.heap.size ≤ r) (o : Obj) : Ex S w (setB w1 r o) :=
  h.trans (S2 := fun b => b = r) ⟨rfl, rfl, rfl, by simp [setB], fun b _ hn => setB_ne w1 r o hn⟩ (fun b hb => hb ▸ hr)

theorem make_map (t : TypeId) (w : World) : (Instr.makeMap t none).run Try.prog w = .ok (.map (some w.heap.size)) (w.alloc (.map #[] 0)) := by
  simp [Instr.makeMap]

theorem run_entry0 {w : World} {r clock : Nat} {a : Mk} (t e : TypeId) (ht : Try.prog.underlying t = some (.map 45 e)) {i : TypeInfo} (hi : Try.prog.info? e = some i) {z : Value} (hz : i.zero = some z) (hb : w.heap[r]? = some (.map #[] clock)) (ha : Key a) :
    (Instr.mapEntry t (.map (some r)) a.val).run Try.prog w = .ok (.tuple #[z, goInt clock]) (setB w r (.map #[{ key := a.val, val := z, born := clock }] (clock + 1))) := by
  unfold Instr.mapEntry
  rw [Sem.run_bind, run_underlying ht, Result.andThen_ok]
  simp only [Sem.run_bind, Go.MapKept.run_getObj_map hb, Result.andThen_ok, Sem.run_pure, check_ok a ha, find_key a ha [] [] _ (by simp) rfl]
  simp [posMk, zeroValue, typeInfo, hi, hz, Result.andThen, Go.MapKept.run_setObj_map _ hb, setB]

theorem run_estore0 {w : World} {r clock : Nat} {k z : Value} (t : TypeId) (x : Value) (hb : w.heap[r]? = some (.map #[{ key := k, val := z, born := 0 }] clock)) :
    (Instr.entryStore t (.map (some r)) (.int .i64 0) x).run Try.prog w = .ok () (setB w r (.map #[{ key := k, val := x, born := 0 }] clock)) := by
  unfold Instr.entryStore
  have h0 : (asInt (.int .i64 0)).run Try.prog w = .ok 0 w := rfl
  simp only [Sem.run_bind, Go.MapKept.run_getObj_map hb, Result.andThen_ok, h0, Sem.run_pure]
  have hf : Array.findIdx? (fun e : MapEntry => ((e.born : Int) == 0)) #[{ key := k, val := z, born := 0 }] = some 0 := by simp [List.findIdx?_cons]
  rw [hf]
  exact Go.MapKept.run_setObj_map _ hb

/-- at an empty map: nothing is found; where an entry of zero has been made: zero -/
theorem run_look0 {w : World} {r clock : Nat} {a : Mk} (hb : w.heap[r]? = some (.map #[] clock)) (ha : Key a) :
    (Instr.lookup 93 (.map (some r)) a.val false).run Try.prog w = .ok (.int .i64 0) w := by
  obtain ⟨i0, hi0, hz0, _, _⟩ := info_parts info3
  exact run_lookup 93 3 Try.underlying93 hi0 hz0 hb ha (ms := []) (by simp) rfl false
theorem run_look1 {w : World} {r clock : Nat} {a : Mk} (hb : w.heap[r]? = some (.map #[{ key := a.val, val := .int .i64 0, born := 0 }] clock)) (ha : Key a) :
    (Instr.lookup 93 (.map (some r)) a.val false).run Try.prog w = .ok (.int .i64 0) w := by
  obtain ⟨i0, hi0, hz0, _, _⟩ := info_parts info3
  rw [run_lookup 93 3 Try.underlying93 hi0 hz0 hb ha (ms := [a]) (by simpa using ha) rfl false]
  have hp : posMk a [a] = some 0 := by
    unfold posMk
    rw [List.findIdx?_cons]
    rcases cmp_keys a a ha.1 ha.1 with ⟨h, _⟩ | ⟨_, h⟩
    · rw [h]; rfl
    · exact absurd rfl h
  rw [hp]
  rfl
theorem run_lookP {w : World} {r clock : Nat} {a : Mk} (hb : w.heap[r]? = some (.map #[] clock)) (ha : a.keys = false) (hd : a.deep ≤ 16) :
    (Instr.lookup 93 (.map (some r)) a.val false).run Try.prog w = .halt (.panic (.iface 19 (.agg #[typeHandle Try.prog 103]))) w := by
  unfold Instr.lookup
  rw [Sem.run_bind, run_underlying Try.underlying93, Result.andThen_ok]
  simp only [Sem.run_bind, Go.MapKept.run_getObj_map hb, Result.andThen_ok, Sem.run_pure, check_marks a _ 10000 w (by omega : 2 * a.deep + 2 ≤ 10000), checkRes, ha]
  rfl
theorem run_entryP {w : World} {r clock : Nat} {a : Mk} (hb : w.heap[r]? = some (.map #[] clock)) (ha : a.keys = false) (hd : a.deep ≤ 16) :
    (Instr.mapEntry 93 (.map (some r)) a.val).run Try.prog w = .halt (.panic (.iface 10 (strVal "hash of unhashable type brand.row"))) w := by
  unfold Instr.mapEntry
  rw [Sem.run_bind, run_underlying Try.underlying93, Result.andThen_ok]
  simp only [Sem.run_bind, Go.MapKept.run_getObj_map hb, Result.andThen_ok, Sem.run_pure, check_marks a _ 10000 w (by omega : 2 * a.deep + 2 ≤ 10000), checkRes, ha]
  rfl

theorem keyf_ok (a : Mk) (ha : Key a) (ga : Nat) (w : World) (h1 : w.heap[ga]? = some (.cells #[a.val] 45 (0, 0))) :
    Calls Try.prog 51 #[.pointer (some ⟨ga, 0, none⟩)] w fun e w' => e = .returned (.tuple #[]) ∧ Ex (fun _ => False) w w' := by
  have hl1 := lt_of_blk h1
  have c1 := (blk_cell h1 0).trans rfl
  have hM : (w.alloc (.map #[] 0)).drew.heap[w.heap.size]? = some (.map #[] 0) := blk_drew (blk_new1 w _)
  obtain ⟨i0, hi0, hz0, _, _⟩ := info_parts info3
  have hlk := run_look0 hM ha
  have hen := run_entry0 93 3 Try.underlying93 hi0 hz0 hM ha
  have hlk2 := run_look1 (setB_blk (o' := .map #[{ key := a.val, val := .int .i64 0, born := 0 }] 1) hM) ha
  have hst := run_estore0 93 (.int .i64 1) (setB_blk (o' := .map #[{ key := a.val, val := .int .i64 0, born := 0 }] 1) hM)
  have hcl : ∀ i, (setB (w.alloc (.map #[] 0)).drew w.heap.size (.map #[{ key := a.val, val := .int .i64 0, born := 0 }] 1)).cell? ⟨ga, i, none⟩ = w.cell? ⟨ga, i, none⟩ := fun i =>
    (ex_setB (((Ex.refl (fun _ => False) w).alloc _).drew) (.inr (Nat.le_refl _)) _).cell hl1 (fun h => h) i
  have hmk := make_map
  obtain ⟨t1, u1, hu1⟩ := a.val_iface
  rw [hu1] at c1 hlk hlk2 hen hst hcl
  have HX := Aside0.mk (ex_setB (ex_setB (((Ex.refl (fun _ => False) w).alloc (.map #[] 0)).drew) (.inr (Nat.le_refl _)) (.map #[{ key := a.val, val := .int .i64 0, born := 0 }] 1)) (.inr (Nat.le_refl _)) (.map #[{ key := a.val, val := .int .i64 1, born := 0 }] 1))
  rw [hu1] at HX
  clear ha hu1 hi0 hz0 h1 hM
  generalize hW2 : setB (w.alloc (.map #[] 0)).drew w.heap.size (.map #[{ key := .iface t1 u1, val := .int .i64 0, born := 0 }] 1) = W2 at hlk2 hen hst hcl HX
  generalize hW3 : setB W2 w.heap.size (.map #[{ key := .iface t1 u1, val := .int .i64 1, born := 0 }] 1) = W3 at hst HX
  clear hW2 hW3
  go_enter Try.func51, Try.ntmps51
  go_wp2
  go_region
  all_goals
    refine bodyPost_end (results_none rfl _ _ _) rfl ?_
    exact ⟨rfl, HX.out⟩

/-- a mark that can be no key: a panic of the machine's own, of one kind or of the other -/
theorem keyf_no (a : Mk) (ha : a.keys = false) (hd : a.deep ≤ 16) (ga : Nat) (w : World) (h1 : w.heap[ga]? = some (.cells #[a.val] 45 (0, 0))) :
    Calls Try.prog 51 #[.pointer (some ⟨ga, 0, none⟩)] w fun e w' => (e = .panicked [{ v := .iface 19 (.agg #[typeHandle Try.prog 103]), recovered := false }] ∨ e = .panicked [{ v := .iface 10 (strVal "hash of unhashable type brand.row"), recovered := false }]) ∧ Ex (fun _ => False) w w' := by
  have hl1 := lt_of_blk h1
  have c1 := (blk_cell h1 0).trans rfl
  have hM : (w.alloc (.map #[] 0)).drew.heap[w.heap.size]? = some (.map #[] 0) := blk_drew (blk_new1 w _)
  have hlk := run_lookP hM ha hd
  have hen := run_entryP hM ha hd
  have hmk := make_map
  obtain ⟨t1, u1, hu1⟩ := a.val_iface
  rw [hu1] at c1 hlk hen
  have HX := Aside0.mk (((Ex.refl (fun _ => False) w).alloc (.map #[] 0)).drew)
  clear ha hu1 h1 hM
  generalize Value.agg #[typeHandle Try.prog 103] = hv at hlk ⊢
  go_enter Try.func51, Try.ntmps51
  go_wp2
  refine start_ (n := 7) (S := Any) (ds := [0, 1, 2, 3, 4, 5, 6]) #[false, false, false, false, false, false, false] (by kernel_rfl) (by rfl) (by rfl) trivial (fun _ => ?_)
  refine pure_ (i := 0) (N := some 3) (v := .map (some w.heap.size)) (a' := _) #[true, false, false, false, false, false, false] rfl rfl (by kernel_rfl) (fun _ _ _ h => h) (Or.inl ⟨by rfl, ?_⟩) rfl ?_
  · intro w'
    rfl
  refine stepV (i := 1) (N := some 4) #[true, true, false, false, false, false, false] rfl (by kernel_rfl) (by decide) rfl (by rfl) (.iface t1 u1) (w1 := (w.alloc (.map #[] 0)).drew) (by go_simp) rfl ?_
  refine stepPP (i := 2) (j := 4) rfl rfl (by kernel_rfl) (by decide) (by decide) (by rfl) (by rfl) _ _ (exec_halt (s := Instr.lookup 93 (.map (some w.heap.size)) (.iface t1 u1) false) rfl hlk) (exec_halt (s := Instr.mapEntry 93 (.map (some w.heap.size)) (.iface t1 u1)) rfl hen) ?_ ?_
  · exact ⟨rfl, .inl rfl, HX.out⟩
  · exact ⟨rfl, .inr rfl, HX.out⟩

set_option maxHeartbeats 400000 in
theorem key_yes (a : Mk) (ha : Key a) (w : World) :
    Calls Try.prog 36 #[a.val] w fun e w' => e = .returned (.bool true) ∧ Ex (fun _ => False) w w' := by
  have hmf : ∀ (fn : Fn) (first cap : Array Value) (w : World), (Instr.makeFunc fn first cap).run Try.prog w = .ok (.func fn first cap) w := fun _ _ _ _ => rfl
  have HA := Aside0.mk ha
  obtain ⟨t1, u1, hu1⟩ := a.val_iface
  rw [hu1]
  have HU := Aside0.mk hu1
  clear ha hu1
  go_enter Try.func36, Try.ntmps36
  go_wp2_with fail
  refine Calls.mono (met_ok 51 _ (fun _ => False) (fun _ => True) _ (fun _ h => h.elim) (fun w => enters_ Try.func51 (by kernel_rfl) rfl _ w) ?_) ?_
  · refine (keyf_ok a HA.out w.heap.size _ (by rw [HU.out]; exact blk_alloc (blk_new1 _ _) _)).mono ?_
    rintro e w' ⟨rfl, hx⟩
    exact ⟨rfl, hx, trivial⟩
  rintro e w3 ⟨rfl, w4, _, hx, rfl⟩
  have HX := Aside0.mk ((((((Ex.refl (fun _ => False) w).alloc _).alloc _).trans hx (fun _ h => h.elim))).set (p := ⟨w.heap.size + 1, 0, none⟩) (.inr (Nat.le_succ _)) (.bool false))
  clear hx
  go_wp2
  go_ret
  exact ⟨rfl, HX.out⟩

set_option maxHeartbeats 400000 in
theorem key_no (a : Mk) (ha : a.keys = false) (hd : a.deep ≤ 16) (w : World) :
    Calls Try.prog 36 #[a.val] w fun e w' => e = .returned (.bool false) ∧ Ex (fun _ => False) w w' := by
  have hmf : ∀ (fn : Fn) (first cap : Array Value) (w : World), (Instr.makeFunc fn first cap).run Try.prog w = .ok (.func fn first cap) w := fun _ _ _ _ => rfl
  have HA := Aside0.mk (And.intro ha hd)
  obtain ⟨t1, u1, hu1⟩ := a.val_iface
  rw [hu1]
  have HU := Aside0.mk hu1
  clear ha hu1 hd
  go_enter Try.func36, Try.ntmps36
  go_wp2_with fail
  refine Calls.mono (met_panic 51 _ (fun _ => False) (fun _ => True) _ (fun _ h => h.elim) (fun w => enters_ Try.func51 (by kernel_rfl) rfl _ w) ?_) ?_
  · refine (keyf_no a HA.out.1 HA.out.2 w.heap.size _ (by rw [HU.out]; exact blk_alloc (blk_new1 _ _) _)).mono ?_
    rintro e w' ⟨h, hx⟩
    refine ⟨?_, hx, trivial⟩
    rcases h with rfl | rfl
    · exact ⟨19, _, .inr rfl, rfl⟩
    · exact ⟨10, _, .inl rfl, rfl⟩
  rintro e w3 ⟨rfl, w4, _, hx, rfl⟩
  have HX := Aside0.mk ((((((Ex.refl (fun _ => False) w).alloc _).alloc _).trans hx (fun _ h => h.elim))).set (p := ⟨w.heap.size + 1, 0, none⟩) (.inr (Nat.le_succ _)) (.bool true))
  clear hx
  go_wp2
  go_ret
  exact ⟨rfl, HX.out⟩

/-- key -/
theorem key_calls (a : Mk) (hd : a.deep ≤ 16) (w : World) : Calls Try.prog 36 #[a.val] w fun e w' => e = .returned (.bool a.keys) ∧ Ex (fun _ => False) w w' := by
  cases h : a.keys with
  | true => exact key_yes a ⟨h, hd⟩ w
  | false => exact key_no a h hd w

end Go.Proofs.Ythkemcekcfccpaa.PBrandCompares
