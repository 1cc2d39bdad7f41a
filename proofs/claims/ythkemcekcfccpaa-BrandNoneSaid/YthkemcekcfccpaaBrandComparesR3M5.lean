/-
  The law BrandNone, walked.
  Values in plain Lean: how many parts, how deep, the fields; what 'take' of package value says of them (takeV), told by these.
-/
import Derived.Test.YthkemcekcfccpaaBrandComparesR3M4
import Derived.Deep.DeepCutAuto
namespace Go.Proofs.Ythkemcekcfccpaa.PBrandCompares
open Go.RowKit Go.Proofs.YthkemcekcfccpaaW.PrintWords Go.Proofs.YthkemcekcfccpaaW.PrintLast Go.Proofs.YthkemcekcfccpaaW.PrintMore
open Go.Proofs.Ythkemcekcfccpaa.GBrandCompares
set_option linter.unusedVariables false
set_option linter.unusedSimpArgs false
theorem putObj_far {w : World} {b l : Nat} {o : Obj} (h : w.heap[b]? = some o) (hne : b ≠ l) (o' : Obj) : (w.putObj l o').heap[b]? = some o := by
  simp only [World.putObj, Array.getElem?_setIfInBounds]
  rw [if_neg (Ne.symm hne)]; exact h
theorem ex_putObj {S : Nat → Prop} {w w1 : World} (h : Ex S w w1) {l : Nat} (hl : S l ∨ w.heap.size ≤ l) (o : Obj) : Ex S w (w1.putObj l o) :=
  h.trans (S2 := fun b => b = l) ⟨rfl, rfl, rfl, by simp [World.putObj], fun b _ hn => by simp only [World.putObj, Array.getElem?_setIfInBounds]; rw [if_neg (Ne.symm hn)]⟩ (fun b hb => hb ▸ hl)
theorem ne_of_blk {w : World} {a b : Nat} {o o' : Obj} (h : w.heap[a]? = some o) (h' : w.heap[b]? = some o') (hne : o ≠ o') : a ≠ b := by
  intro e; subst e; rw [h] at h'; exact hne (Option.some.inj h')
theorem results_cellv {fn : Func} {p : Tmp} (h : fn.results = #[.cell p 4]) (tmps : Array Value) (w : World) (g : Nat) (b : Bool) (fr : Nat × Nat) (hp : tmps.getD p undef = .pointer (some ⟨g, 0, none⟩)) (hg : w.heap[g]? = some (.cells #[.bool b] 4 fr)) :
    (results fn tmps).run Try.prog w = .ok (.bool b) w := by
  have hp' : tmps[p]?.getD undef = .pointer (some ⟨g, 0, none⟩) := by simpa using hp
  have hc : w.cell? ⟨g, 0, none⟩ = some (.bool b) := cell_of_row w g 0 _ _ _ hg
  have hu := Try.underlying4
  simp [results, h, hp', asAddr, go_sem, hc]
theorem iter_nt (v y : Value) (gc : Nat) (w : World) (h : NoTab w v) (hb : w.heap[gc]? = some (.cells #[v] 39 (0, 0))) : Calls Try.prog 48 #[y, .pointer (some ⟨gc, 0, none⟩)] w fun e w' => (∃ v, e = .returned v) ∧ w' = w := by
  have hl := lt_of_blk hb
  have c0 := (blk_cell hb 0).trans rfl
  have HN := Aside0.mk h
  clear h hb
  go_enter Try.func48, Try.ntmps48
  go_wp2_with fail
  refine (copy_nt v _ HN.out).mono ?_
  rintro e w1 ⟨rfl, rfl⟩
  go_wp2
  refine bodyPost_ret (results_none rfl _ _ _) rfl ?_
  exact ⟨⟨_, rfl⟩, rfl⟩
theorem same_zero (w : World) : Calls Try.prog 26 #[.agg #[.int .u8 0, .int .i64 0, .string ⟨#[]⟩, .slice none 0 0, .int .i64 0], .agg #[.int .u8 0, .int .i64 0, .string ⟨#[]⟩, .slice none 0 0, .int .i64 0]] w fun e w' => e = .returned (.bool true) ∧ Below w.heap.size w w' :=
  posternref04_Same.calls 3 0 0 ⟨#[]⟩ none 0 [] 0 0 0 ⟨#[]⟩ none 0 [] 0 true w (Kd.C_nil _ _) (Nat.le_refl _) (Kd.C_nil _ _) (Nat.le_refl _) (by first | rfl | decide | (simp [posternref04_Same.f, posternref04_Same.j0, posternref04_Same.l0]; done))
theorem alloc27 (w : World) : (Instr.alloc 27 true (.tuple #[])).run Try.prog w = .ok (.pointer (some ⟨w.heap.size, 0, none⟩)) (w.alloc (.cells #[.int .u8 0, .int .i64 0, .string ⟨#[]⟩, .slice none 0 0, .int .i64 0] 27)) := by kernel_rfl
set_option maxHeartbeats 4000000 in
set_option maxRecDepth 100000 in
theorem none_walk (x y : S27) (A B : Option Addr) (c d : Nat) (w : World) :
    Calls Try.prog 7 #[.agg #[.int .u8 x.f0, .int .i64 x.f1, .string x.f2, .slice A x.f3.length c, .int .i64 x.f4], .agg #[.int .u8 y.f0, .int .i64 y.f1, .string y.f2, .slice B y.f3.length d, .int .i64 y.f4]] w fun e w' => e = .returned (.bool true) ∧ Ex (fun _ => False) w w' := by
  refine calls_of_wp_marks Try.func7 rfl ?_
  simp only [Try.ntmps7, List.size_toArray, List.length_cons, List.length_nil, Nat.reduceAdd, Nat.reduceSub, Array.replicate_succ, Array.replicate_zero, List.push_toArray, List.append_toArray, List.nil_append, List.cons_append]
  go_wp2_with fail
  refine (lives_calls _).mono ?_
  rintro e w1 ⟨rfl, hx1⟩
  have HX1 := Aside0.mk (((((Ex.refl (fun _ => False) w).alloc _).alloc _).alloc _).trans hx1 (fun _ h => h.elim))
  have HBX := Aside0.mk (hx1.blk (blk_alloc (blk_alloc (blk_new1 w _) _) _) (fun h => h))
  have HBY := Aside0.mk (hx1.blk (blk_alloc (blk_new2 w _ _) _) (fun h => h))
  have HBR := Aside0.mk (hx1.blk (blk_new3 w _ _ _) (fun h => h))
  clear hx1
  go_wp2_with fail
  have HX2 := Aside0.mk ((HX1.out.alloc (.cells #[.map none, .map none, .int .i64 0] 66)).alloc (.cells #[.pointer none, .pointer (some ⟨w1.heap.size, 0, none⟩)] 51))
  have HBX2 := Aside0.mk (blk_alloc (blk_alloc HBX.out (.cells #[.map none, .map none, .int .i64 0] 66)) (.cells #[.pointer none, .pointer (some ⟨w1.heap.size, 0, none⟩)] 51))
  have HBY2 := Aside0.mk (blk_alloc (blk_alloc HBY.out (.cells #[.map none, .map none, .int .i64 0] 66)) (.cells #[.pointer none, .pointer (some ⟨w1.heap.size, 0, none⟩)] 51))
  have HBR2 := Aside0.mk (blk_alloc (blk_alloc HBR.out (.cells #[.map none, .map none, .int .i64 0] 66)) (.cells #[.pointer none, .pointer (some ⟨w1.heap.size, 0, none⟩)] 51))
  have HBT2 := Aside0.mk (blk_new2 w1 (.cells #[.map none, .map none, .int .i64 0] 66) (.cells #[.pointer none, .pointer (some ⟨w1.heap.size, 0, none⟩)] 51))
  have HBZ2 := Aside0.mk (blk_alloc (blk_new1 w1 (.cells #[.map none, .map none, .int .i64 0] 66)) (.cells #[.pointer none, .pointer (some ⟨w1.heap.size, 0, none⟩)] 51))
  clear HX1 HBX HBY HBR
  generalize (w1.alloc (.cells #[.map none, .map none, .int .i64 0] 66)).alloc (.cells #[.pointer none, .pointer (some ⟨w1.heap.size, 0, none⟩)] 51) = w2 at HX2 HBX2 HBY2 HBR2 HBT2 HBZ2 ⊢
  have HGR : Aside0 (w.heap.size ≤ w.heap.size + 1 + 1) := ⟨by omega⟩
  generalize w.heap.size + 1 + 1 = gr at HBR2 HGR ⊢
  generalize w.heap.size + 1 = gy at HBY2 ⊢
  generalize hgx : w.heap.size = gx at HBX2 ⊢
  generalize w1.heap.size + 1 = gt at HBT2 ⊢
  generalize w1.heap.size = gz at HBT2 HBZ2 ⊢
  have HBX := HBX2
  have HBY := HBY2
  have HBT := HBT2
  have HN := Aside0.mk (show NoTab w2 (Value.pointer none) from .inl rfl)
  refine wp_loop_rounds 3 ?_
  rw [rounds_succ]
  have HS : Aside0 (∀ w', Ex (fun _ => False) w2 w' → Ex (fun _ => False) w2 w' ∧ w'.cell? ⟨gt, 0, none⟩ = some ((Value.pointer none)) ∧ w'.cell? ⟨gt, 1, none⟩ = some (.pointer (some ⟨gz, 0, none⟩)) ∧ w'.cell? ⟨gx, 0, none⟩ = some (.int .u8 x.f0) ∧ w'.cell? ⟨gx, 1, none⟩ = some (.int .i64 x.f1) ∧ w'.cell? ⟨gx, 2, none⟩ = some (.string x.f2) ∧ w'.cell? ⟨gx, 3, none⟩ = some (.slice A x.f3.length c) ∧ w'.cell? ⟨gx, 4, none⟩ = some (.int .i64 x.f4) ∧ w'.cell? ⟨gy, 0, none⟩ = some (.int .u8 y.f0) ∧ w'.cell? ⟨gy, 1, none⟩ = some (.int .i64 y.f1) ∧ w'.cell? ⟨gy, 2, none⟩ = some (.string y.f2) ∧ w'.cell? ⟨gy, 3, none⟩ = some (.slice B y.f3.length d) ∧ w'.cell? ⟨gy, 4, none⟩ = some (.int .i64 y.f4)) := ⟨fun w' h => ⟨h, (blk_cell (((Ex.refl (fun _ => False) w2).trans h (fun _ h => h.elim)).blk HBT.out (fun h => h)) 0).trans rfl, (blk_cell (((Ex.refl (fun _ => False) w2).trans h (fun _ h => h.elim)).blk HBT.out (fun h => h)) 1).trans rfl, (blk_cell (((Ex.refl (fun _ => False) w2).trans h (fun _ h => h.elim)).blk HBX.out (fun h => h)) 0).trans rfl, (blk_cell (((Ex.refl (fun _ => False) w2).trans h (fun _ h => h.elim)).blk HBX.out (fun h => h)) 1).trans rfl, (blk_cell (((Ex.refl (fun _ => False) w2).trans h (fun _ h => h.elim)).blk HBX.out (fun h => h)) 2).trans rfl, (blk_cell (((Ex.refl (fun _ => False) w2).trans h (fun _ h => h.elim)).blk HBX.out (fun h => h)) 3).trans rfl, (blk_cell (((Ex.refl (fun _ => False) w2).trans h (fun _ h => h.elim)).blk HBX.out (fun h => h)) 4).trans rfl, (blk_cell (((Ex.refl (fun _ => False) w2).trans h (fun _ h => h.elim)).blk HBY.out (fun h => h)) 0).trans rfl, (blk_cell (((Ex.refl (fun _ => False) w2).trans h (fun _ h => h.elim)).blk HBY.out (fun h => h)) 1).trans rfl, (blk_cell (((Ex.refl (fun _ => False) w2).trans h (fun _ h => h.elim)).blk HBY.out (fun h => h)) 2).trans rfl, (blk_cell (((Ex.refl (fun _ => False) w2).trans h (fun _ h => h.elim)).blk HBY.out (fun h => h)) 3).trans rfl, (blk_cell (((Ex.refl (fun _ => False) w2).trans h (fun _ h => h.elim)).blk HBY.out (fun h => h)) 4).trans rfl⟩⟩
  go_upto_region 8 with (fail)
  go_cut [8, 9, 10] from 27 to 36 (fun s8 s9 s10 wx => ∃ g8, s8 = .pointer (some ⟨g8, 0, none⟩) ∧ s9 = .bool false ∧ s10 = .int .i64 1 ∧ Aside0 (Ex (fun _ => False) w2 wx) ∧ Aside0 (wx.heap[g8]? = some (.cells #[.int .u8 0, .int .i64 0, .string ⟨#[]⟩, .slice none 0 0, .int .i64 0] 27 (0, 0))))
  case first =>
    refine region_by 11 [8, 9] (specL [Is (.int .i64 0), Is (.pointer (some ⟨gt, 0, none⟩)), Is (Value.pointer none), Is (.agg #[.int .u8 x.f0, .int .i64 x.f1, .string x.f2, .slice A x.f3.length c, .int .i64 x.f4]), Is (.agg #[.int .u8 y.f0, .int .i64 y.f1, .string y.f2, .slice B y.f3.length d, .int .i64 y.f4]), Is (.tuple #[.agg #[.int .u8 0, .int .i64 0, .string ⟨#[]⟩, .slice none 0 0, .int .i64 0], .bool false, .int .i64 1]), Is (.tuple #[.agg #[.int .u8 0, .int .i64 0, .string ⟨#[]⟩, .slice none 0 0, .int .i64 0], .bool false, .int .i64 1]), Is (.agg #[.int .u8 0, .int .i64 0, .string ⟨#[]⟩, .slice none 0 0, .int .i64 0]), Is (.bool false), Is (.int .i64 1), At w2.heap.size (.cells #[.int .u8 0, .int .i64 0, .string ⟨#[]⟩, .slice none 0 0, .int .i64 0] 27 (0, 0))]) (by kernel_rfl) (by kernel_rfl) (stab_all (stab_cons (stab_is _) (stab_cons (stab_is _) (stab_cons (stab_is _) (stab_cons (stab_is _) (stab_cons (stab_is _) (stab_cons (stab_is _) (stab_cons (stab_is _) (stab_cons (stab_is _) (stab_cons (stab_is _) (stab_cons (stab_is _) (stab_cons (stab_at _ _) (stab_nil))))))))))))) ?_ ?_ ?_
    · intro i hi hnl
      obtain rfl | rfl | rfl | rfl | rfl | rfl | rfl | rfl | rfl | rfl | rfl : i = 0 ∨ i = 1 ∨ i = 2 ∨ i = 3 ∨ i = 4 ∨ i = 5 ∨ i = 6 ∨ i = 7 ∨ i = 8 ∨ i = 9 ∨ i = 10 := by omega
      · intro o ho ρ yl w1 hx hc hf hgl hp hb
        simp only [List.getElem?_toArray, List.getElem?_cons_succ, List.getElem?_cons_zero, Option.some.injEq] at ho
        subst ho
        have hx := ((Ex.refl (fun _ => False) w2).drew).trans hx (fun _ h => h.elim)
        have b7 := hb 7 (by kernel_rfl)
        clear hp hb
        refine wantL rfl ⟨.int .i64 0, w1, ?_, Ex.refl _ _, rfl⟩
        go_simp
      · intro o ho ρ yl w1 hx hc hf hgl hp hb
        simp only [List.getElem?_toArray, List.getElem?_cons_succ, List.getElem?_cons_zero, Option.some.injEq] at ho
        subst ho
        have hx := ((Ex.refl (fun _ => False) w2).drew).trans hx (fun _ h => h.elim)
        obtain ⟨v0, s0, e0, y0⟩ := hp 0 (by kernel_rfl)
        have e0 := e0 28 rfl
        obtain rfl : v0 = (.int .i64 0) := s0
        clear y0
        have b6 := hb 6 (by kernel_rfl)
        clear hp hb
        refine wantL rfl ⟨.pointer (some ⟨gt, 0, none⟩), w1, ?_, Ex.refl _ _, rfl⟩
        go_simp
      · intro o ho ρ yl w1 hx hc hf hgl hp hb
        simp only [List.getElem?_toArray, List.getElem?_cons_succ, List.getElem?_cons_zero, Option.some.injEq] at ho
        subst ho
        have hx := ((Ex.refl (fun _ => False) w2).drew).trans hx (fun _ h => h.elim)
        obtain ⟨v1, s1, e1, y1⟩ := hp 1 (by kernel_rfl)
        have e1 := e1 29 rfl
        obtain rfl : v1 = (.pointer (some ⟨gt, 0, none⟩)) := s1
        clear y1
        clear hp hb
        obtain ⟨_, hcells⟩ := HS.out w1 hx
        refine wantL rfl ⟨Value.pointer none, w1, ?_, Ex.refl _ _, rfl⟩
        go_simp
      · intro o ho ρ yl w1 hx hc hf hgl hp hb
        simp only [List.getElem?_toArray, List.getElem?_cons_succ, List.getElem?_cons_zero, Option.some.injEq] at ho
        subst ho
        have hx := ((Ex.refl (fun _ => False) w2).drew).trans hx (fun _ h => h.elim)
        have b2 := hb 2 (by kernel_rfl)
        clear hp hb
        obtain ⟨_, hcells⟩ := HS.out w1 hx
        refine wantL rfl ⟨.agg #[.int .u8 x.f0, .int .i64 x.f1, .string x.f2, .slice A x.f3.length c, .int .i64 x.f4], w1, ?_, Ex.refl _ _, rfl⟩
        go_simp
      · intro o ho ρ yl w1 hx hc hf hgl hp hb
        simp only [List.getElem?_toArray, List.getElem?_cons_succ, List.getElem?_cons_zero, Option.some.injEq] at ho
        subst ho
        have hx := ((Ex.refl (fun _ => False) w2).drew).trans hx (fun _ h => h.elim)
        have b3 := hb 3 (by kernel_rfl)
        clear hp hb
        obtain ⟨_, hcells⟩ := HS.out w1 hx
        refine wantL rfl ⟨.agg #[.int .u8 y.f0, .int .i64 y.f1, .string y.f2, .slice B y.f3.length d, .int .i64 y.f4], w1, ?_, Ex.refl _ _, rfl⟩
        go_simp
      · intro o ho ρ yl w1 hx hc hf hgl hp hb
        simp only [List.getElem?_toArray, List.getElem?_cons_succ, List.getElem?_cons_zero, Option.some.injEq] at ho
        subst ho
        have hx := ((Ex.refl (fun _ => False) w2).drew).trans hx (fun _ h => h.elim)
        obtain ⟨v2, s2, e2, y2⟩ := hp 2 (by kernel_rfl)
        have e2 := e2 30 rfl
        obtain rfl : v2 = (Value.pointer none) := s2
        clear y2
        obtain ⟨v3, s3, e3, y3⟩ := hp 3 (by kernel_rfl)
        have e3 := e3 31 rfl
        obtain rfl : v3 = (.agg #[.int .u8 x.f0, .int .i64 x.f1, .string x.f2, .slice A x.f3.length c, .int .i64 x.f4]) := s3
        clear y3
        obtain ⟨v4, s4, e4, y4⟩ := hp 4 (by kernel_rfl)
        have e4 := e4 32 rfl
        obtain rfl : v4 = (.agg #[.int .u8 y.f0, .int .i64 y.f1, .string y.f2, .slice B y.f3.length d, .int .i64 y.f4]) := s4
        clear y4
        clear hp hb
        refine wantR rfl ⟨15, #[Value.pointer none, .agg #[.int .u8 x.f0, .int .i64 x.f1, .string x.f2, .slice A x.f3.length c, .int .i64 x.f4], .agg #[.int .u8 y.f0, .int .i64 y.f1, .string y.f2, .slice B y.f3.length d, .int .i64 y.f4]], exec_call' Try.func15 (by kernel_rfl) rfl _ rfl (by simp [e2, e3, e4]) (hf 15), ?_⟩
        refine (put_nt (Value.pointer none) _ (HN.out.ex0 hx) x.f0 x.f1 x.f4 x.f2 A x.f3.length c y.f0 y.f1 y.f4 y.f2 B y.f3.length d).mono ?_
        rintro e wq ⟨rfl, hq0⟩
        exact ⟨_, rfl, hq0, rfl⟩
      · intro o ho ρ yl w1 hx hc hf hgl hp hb
        simp only [List.getElem?_toArray, List.getElem?_cons_succ, List.getElem?_cons_zero, Option.some.injEq] at ho
        subst ho
        have hx := ((Ex.refl (fun _ => False) w2).drew).trans hx (fun _ h => h.elim)
        obtain ⟨v5, s5, e5, y5⟩ := hp 5 (by kernel_rfl)
        have e5 := e5 33 rfl
        obtain rfl : v5 = (.tuple #[.agg #[.int .u8 0, .int .i64 0, .string ⟨#[]⟩, .slice none 0 0, .int .i64 0], .bool false, .int .i64 1]) := s5
        clear y5
        clear hp hb
        refine wantL rfl ⟨.tuple #[.agg #[.int .u8 0, .int .i64 0, .string ⟨#[]⟩, .slice none 0 0, .int .i64 0], .bool false, .int .i64 1], w1, ?_, Ex.refl _ _, rfl⟩
        go_simp
      · intro o ho ρ yl w1 hx hc hf hgl hp hb
        simp only [List.getElem?_toArray, List.getElem?_cons_succ, List.getElem?_cons_zero, Option.some.injEq] at ho
        subst ho
        have hx := ((Ex.refl (fun _ => False) w2).drew).trans hx (fun _ h => h.elim)
        obtain ⟨v6, s6, e6, y6⟩ := hp 6 (by kernel_rfl)
        have e6 := e6 27 rfl
        obtain rfl : v6 = (.tuple #[.agg #[.int .u8 0, .int .i64 0, .string ⟨#[]⟩, .slice none 0 0, .int .i64 0], .bool false, .int .i64 1]) := s6
        clear y6
        clear hp hb
        refine wantL rfl ⟨.agg #[.int .u8 0, .int .i64 0, .string ⟨#[]⟩, .slice none 0 0, .int .i64 0], w1, ?_, Ex.refl _ _, rfl⟩
        go_simp
      · exact absurd hnl (by decide)
      · exact absurd hnl (by decide)
      · intro o ho ρ yl w1 hx hc hf hgl hp hb
        simp only [List.getElem?_toArray, List.getElem?_cons_succ, List.getElem?_cons_zero, Option.some.injEq] at ho
        subst ho
        have hx := ((Ex.refl (fun _ => False) w2).drew).trans hx (fun _ h => h.elim)
        clear hp hb
        refine wantL rfl ⟨_, _, exec_value (s := Instr.alloc 27 true (.tuple #[])) rfl (alloc27 w1), (Ex.refl _ _).alloc _, ⟨w1.heap.size, rfl, hx.size, blk_new1 _ _⟩⟩
    · intro i hil
      obtain rfl | rfl : i = 8 ∨ i = 9 := by simpa using hil
      · intro o ho ρ yl w1 hx hc hf hgl hp hb
        simp only [List.getElem?_toArray, List.getElem?_cons_succ, List.getElem?_cons_zero, Option.some.injEq] at ho
        subst ho
        have hx := ((Ex.refl (fun _ => False) w2).drew).trans hx (fun _ h => h.elim)
        obtain ⟨v6, s6, e6, y6⟩ := hp 6 (by kernel_rfl)
        have e6 := e6 27 rfl
        obtain rfl : v6 = (.tuple #[.agg #[.int .u8 0, .int .i64 0, .string ⟨#[]⟩, .slice none 0 0, .int .i64 0], .bool false, .int .i64 1]) := s6
        clear y6
        clear hp hb
        refine ⟨.bool false, .inl ⟨rfl, fun w' => ?_⟩, rfl⟩
        go_simp
      · intro o ho ρ yl w1 hx hc hf hgl hp hb
        simp only [List.getElem?_toArray, List.getElem?_cons_succ, List.getElem?_cons_zero, Option.some.injEq] at ho
        subst ho
        have hx := ((Ex.refl (fun _ => False) w2).drew).trans hx (fun _ h => h.elim)
        obtain ⟨v6, s6, e6, y6⟩ := hp 6 (by kernel_rfl)
        have e6 := e6 27 rfl
        obtain rfl : v6 = (.tuple #[.agg #[.int .u8 0, .int .i64 0, .string ⟨#[]⟩, .slice none 0 0, .int .i64 0], .bool false, .int .i64 1]) := s6
        clear y6
        clear hp hb
        refine ⟨.int .i64 1, .inl ⟨rfl, fun w' => ?_⟩, rfl⟩
        go_simp
    · intro xs w1 hx hs K hKK
      have s0 : xs 0 = (.int .i64 0) := hs 0 (by omega)
      have s1 : xs 1 = (.pointer (some ⟨gt, 0, none⟩)) := hs 1 (by omega)
      have s2 : xs 2 = (Value.pointer none) := hs 2 (by omega)
      have s3 : xs 3 = (.agg #[.int .u8 x.f0, .int .i64 x.f1, .string x.f2, .slice A x.f3.length c, .int .i64 x.f4]) := hs 3 (by omega)
      have s4 : xs 4 = (.agg #[.int .u8 y.f0, .int .i64 y.f1, .string y.f2, .slice B y.f3.length d, .int .i64 y.f4]) := hs 4 (by omega)
      have s5 : xs 5 = (.tuple #[.agg #[.int .u8 0, .int .i64 0, .string ⟨#[]⟩, .slice none 0 0, .int .i64 0], .bool false, .int .i64 1]) := hs 5 (by omega)
      have s6 : xs 6 = (.tuple #[.agg #[.int .u8 0, .int .i64 0, .string ⟨#[]⟩, .slice none 0 0, .int .i64 0], .bool false, .int .i64 1]) := hs 6 (by omega)
      have s7 : xs 7 = (.agg #[.int .u8 0, .int .i64 0, .string ⟨#[]⟩, .slice none 0 0, .int .i64 0]) := hs 7 (by omega)
      have s8 : xs 8 = (.bool false) := hs 8 (by omega)
      have s9 : xs 9 = (.int .i64 1) := hs 9 (by omega)
      have s10 : (At w2.heap.size (.cells #[.int .u8 0, .int .i64 0, .string ⟨#[]⟩, .slice none 0 0, .int .i64 0] 27 (0, 0))) (xs 10) w1 := hs 10 (by omega)
      clear hs
      simp only [putSlots, dstOf, List.getElem?_toArray, List.getElem?_cons_succ, List.getElem?_cons_zero, Option.bind_some, List.setIfInBounds_toArray, List.set_cons_zero, List.set_cons_succ, List.drop_succ_cons, List.drop_zero]
      rw [s0, s1, s2, s3, s4, s5, s6, s7, s8, s9]
      clear s0 s1 s2 s3 s4 s5 s6 s7 s8 s9
      obtain ⟨g8, hg8, hlo, hb8⟩ := s10
      rw [hg8]
      have HB8 := Aside0.mk hb8
      have HLO := Aside0.mk hlo
      have HX1 := Aside0.mk hx
      have q8c0 := (blk_cell hb8 0).trans rfl
      have q8f0 := blk_frozen hb8 0
      have q8c1 := (blk_cell hb8 1).trans rfl
      have q8f1 := blk_frozen hb8 1
      have q8c2 := (blk_cell hb8 2).trans rfl
      have q8f2 := blk_frozen hb8 2
      have q8c3 := (blk_cell hb8 3).trans rfl
      have q8f3 := blk_frozen hb8 3
      have q8c4 := (blk_cell hb8 4).trans rfl
      have q8f4 := blk_frozen hb8 4
      have q8l := lt_of_blk hb8
      clear hg8 hb8 hx hlo HS
      go_wp2_with fail
      go_meet
      exact ⟨g8, rfl, rfl, rfl, ⟨ex_put27 HX1.out (.inr HLO.out) _ _ _ _ _⟩, ⟨put27 HB8.out rfl _ _ _ _ _⟩⟩
  case rest =>
    clear HS
    obtain ⟨g8, rfl, rfl, rfl, HX8, HB8⟩ := hcut
    obtain ⟨w80, rfl⟩ : ∃ w80, w80 = wc := ⟨_, rfl⟩
    have HS : Aside0 (∀ w', Ex (fun _ => False) w80 w' → Ex (fun _ => False) w80 w' ∧ w'.cell? ⟨gt, 0, none⟩ = some ((Value.pointer none)) ∧ w'.cell? ⟨gt, 1, none⟩ = some (.pointer (some ⟨gz, 0, none⟩)) ∧ w'.cell? ⟨gx, 0, none⟩ = some (.int .u8 x.f0) ∧ w'.cell? ⟨gx, 1, none⟩ = some (.int .i64 x.f1) ∧ w'.cell? ⟨gx, 2, none⟩ = some (.string x.f2) ∧ w'.cell? ⟨gx, 3, none⟩ = some (.slice A x.f3.length c) ∧ w'.cell? ⟨gx, 4, none⟩ = some (.int .i64 x.f4) ∧ w'.cell? ⟨gy, 0, none⟩ = some (.int .u8 y.f0) ∧ w'.cell? ⟨gy, 1, none⟩ = some (.int .i64 y.f1) ∧ w'.cell? ⟨gy, 2, none⟩ = some (.string y.f2) ∧ w'.cell? ⟨gy, 3, none⟩ = some (.slice B y.f3.length d) ∧ w'.cell? ⟨gy, 4, none⟩ = some (.int .i64 y.f4)) := ⟨fun w' h => ⟨h, (blk_cell ((HX8.out.trans h (fun _ h => h.elim)).blk HBT.out (fun h => h)) 0).trans rfl, (blk_cell ((HX8.out.trans h (fun _ h => h.elim)).blk HBT.out (fun h => h)) 1).trans rfl, (blk_cell ((HX8.out.trans h (fun _ h => h.elim)).blk HBX.out (fun h => h)) 0).trans rfl, (blk_cell ((HX8.out.trans h (fun _ h => h.elim)).blk HBX.out (fun h => h)) 1).trans rfl, (blk_cell ((HX8.out.trans h (fun _ h => h.elim)).blk HBX.out (fun h => h)) 2).trans rfl, (blk_cell ((HX8.out.trans h (fun _ h => h.elim)).blk HBX.out (fun h => h)) 3).trans rfl, (blk_cell ((HX8.out.trans h (fun _ h => h.elim)).blk HBX.out (fun h => h)) 4).trans rfl, (blk_cell ((HX8.out.trans h (fun _ h => h.elim)).blk HBY.out (fun h => h)) 0).trans rfl, (blk_cell ((HX8.out.trans h (fun _ h => h.elim)).blk HBY.out (fun h => h)) 1).trans rfl, (blk_cell ((HX8.out.trans h (fun _ h => h.elim)).blk HBY.out (fun h => h)) 2).trans rfl, (blk_cell ((HX8.out.trans h (fun _ h => h.elim)).blk HBY.out (fun h => h)) 3).trans rfl, (blk_cell ((HX8.out.trans h (fun _ h => h.elim)).blk HBY.out (fun h => h)) 4).trans rfl⟩⟩
    go_upto_region 9 with (fail)
    go_cut [11, 12, 13] from 37 to 45 (fun s11 s12 s13 wx => ∃ g11, s11 = .pointer (some ⟨g11, 0, none⟩) ∧ s12 = .bool false ∧ s13 = .int .i64 1 ∧ Aside0 (Ex (fun _ => False) w80 wx) ∧ Aside0 (wx.heap[g11]? = some (.cells #[.int .u8 0, .int .i64 0, .string ⟨#[]⟩, .slice none 0 0, .int .i64 0] 27 (0, 0))))
    case first =>
      refine region_by 10 [7, 8] (specL [Is (.int .i64 0), Is (.pointer (some ⟨gt, 0, none⟩)), Is (Value.pointer none), Is (.agg #[.int .u8 x.f0, .int .i64 x.f1, .string x.f2, .slice A x.f3.length c, .int .i64 x.f4]), Is (.tuple #[.agg #[.int .u8 0, .int .i64 0, .string ⟨#[]⟩, .slice none 0 0, .int .i64 0], .bool false, .int .i64 1]), Is (.tuple #[.agg #[.int .u8 0, .int .i64 0, .string ⟨#[]⟩, .slice none 0 0, .int .i64 0], .bool false, .int .i64 1]), Is (.agg #[.int .u8 0, .int .i64 0, .string ⟨#[]⟩, .slice none 0 0, .int .i64 0]), Is (.bool false), Is (.int .i64 1), At w80.heap.size (.cells #[.int .u8 0, .int .i64 0, .string ⟨#[]⟩, .slice none 0 0, .int .i64 0] 27 (0, 0))]) (by kernel_rfl) (by kernel_rfl) (stab_all (stab_cons (stab_is _) (stab_cons (stab_is _) (stab_cons (stab_is _) (stab_cons (stab_is _) (stab_cons (stab_is _) (stab_cons (stab_is _) (stab_cons (stab_is _) (stab_cons (stab_is _) (stab_cons (stab_is _) (stab_cons (stab_at _ _) (stab_nil)))))))))))) ?_ ?_ ?_
      · intro i hi hnl
        obtain rfl | rfl | rfl | rfl | rfl | rfl | rfl | rfl | rfl | rfl : i = 0 ∨ i = 1 ∨ i = 2 ∨ i = 3 ∨ i = 4 ∨ i = 5 ∨ i = 6 ∨ i = 7 ∨ i = 8 ∨ i = 9 := by omega
        · intro o ho ρ yl w1 hx hc hf hgl hp hb
          simp only [List.getElem?_toArray, List.getElem?_cons_succ, List.getElem?_cons_zero, Option.some.injEq] at ho
          subst ho
          have hx := ((Ex.refl (fun _ => False) w80).drew).trans hx (fun _ h => h.elim)
          have b7 := hb 7 (by kernel_rfl)
          clear hp hb
          refine wantL rfl ⟨.int .i64 0, w1, ?_, Ex.refl _ _, rfl⟩
          go_simp
        · intro o ho ρ yl w1 hx hc hf hgl hp hb
          simp only [List.getElem?_toArray, List.getElem?_cons_succ, List.getElem?_cons_zero, Option.some.injEq] at ho
          subst ho
          have hx := ((Ex.refl (fun _ => False) w80).drew).trans hx (fun _ h => h.elim)
          obtain ⟨v0, s0, e0, y0⟩ := hp 0 (by kernel_rfl)
          have e0 := e0 38 rfl
          obtain rfl : v0 = (.int .i64 0) := s0
          clear y0
          have b6 := hb 6 (by kernel_rfl)
          clear hp hb
          refine wantL rfl ⟨.pointer (some ⟨gt, 0, none⟩), w1, ?_, Ex.refl _ _, rfl⟩
          go_simp
        · intro o ho ρ yl w1 hx hc hf hgl hp hb
          simp only [List.getElem?_toArray, List.getElem?_cons_succ, List.getElem?_cons_zero, Option.some.injEq] at ho
          subst ho
          have hx := ((Ex.refl (fun _ => False) w80).drew).trans hx (fun _ h => h.elim)
          obtain ⟨v1, s1, e1, y1⟩ := hp 1 (by kernel_rfl)
          have e1 := e1 39 rfl
          obtain rfl : v1 = (.pointer (some ⟨gt, 0, none⟩)) := s1
          clear y1
          clear hp hb
          obtain ⟨_, hcells⟩ := HS.out w1 hx
          refine wantL rfl ⟨Value.pointer none, w1, ?_, Ex.refl _ _, rfl⟩
          go_simp
        · intro o ho ρ yl w1 hx hc hf hgl hp hb
          simp only [List.getElem?_toArray, List.getElem?_cons_succ, List.getElem?_cons_zero, Option.some.injEq] at ho
          subst ho
          have hx := ((Ex.refl (fun _ => False) w80).drew).trans hx (fun _ h => h.elim)
          have b2 := hb 2 (by kernel_rfl)
          clear hp hb
          obtain ⟨_, hcells⟩ := HS.out w1 hx
          refine wantL rfl ⟨.agg #[.int .u8 x.f0, .int .i64 x.f1, .string x.f2, .slice A x.f3.length c, .int .i64 x.f4], w1, ?_, Ex.refl _ _, rfl⟩
          go_simp
        · intro o ho ρ yl w1 hx hc hf hgl hp hb
          simp only [List.getElem?_toArray, List.getElem?_cons_succ, List.getElem?_cons_zero, Option.some.injEq] at ho
          subst ho
          have hx := ((Ex.refl (fun _ => False) w80).drew).trans hx (fun _ h => h.elim)
          obtain ⟨v2, s2, e2, y2⟩ := hp 2 (by kernel_rfl)
          have e2 := e2 40 rfl
          obtain rfl : v2 = (Value.pointer none) := s2
          clear y2
          obtain ⟨v3, s3, e3, y3⟩ := hp 3 (by kernel_rfl)
          have e3 := e3 41 rfl
          obtain rfl : v3 = (.agg #[.int .u8 x.f0, .int .i64 x.f1, .string x.f2, .slice A x.f3.length c, .int .i64 x.f4]) := s3
          clear y3
          clear hp hb
          refine wantR rfl ⟨19, #[Value.pointer none, .agg #[.int .u8 x.f0, .int .i64 x.f1, .string x.f2, .slice A x.f3.length c, .int .i64 x.f4]], exec_call' Try.func19 (by kernel_rfl) rfl _ rfl (by simp [e2, e3]) (hf 19), ?_⟩
          refine (get_nt (Value.pointer none) _ (HN.out.ex0 (HX8.out.trans hx (fun _ h => h.elim))) x.f0 x.f1 x.f4 x.f2 A x.f3.length c).mono ?_
          rintro e wq ⟨rfl, hq0⟩
          exact ⟨_, rfl, hq0, rfl⟩
        · intro o ho ρ yl w1 hx hc hf hgl hp hb
          simp only [List.getElem?_toArray, List.getElem?_cons_succ, List.getElem?_cons_zero, Option.some.injEq] at ho
          subst ho
          have hx := ((Ex.refl (fun _ => False) w80).drew).trans hx (fun _ h => h.elim)
          obtain ⟨v4, s4, e4, y4⟩ := hp 4 (by kernel_rfl)
          have e4 := e4 42 rfl
          obtain rfl : v4 = (.tuple #[.agg #[.int .u8 0, .int .i64 0, .string ⟨#[]⟩, .slice none 0 0, .int .i64 0], .bool false, .int .i64 1]) := s4
          clear y4
          clear hp hb
          refine wantL rfl ⟨.tuple #[.agg #[.int .u8 0, .int .i64 0, .string ⟨#[]⟩, .slice none 0 0, .int .i64 0], .bool false, .int .i64 1], w1, ?_, Ex.refl _ _, rfl⟩
          go_simp
        · intro o ho ρ yl w1 hx hc hf hgl hp hb
          simp only [List.getElem?_toArray, List.getElem?_cons_succ, List.getElem?_cons_zero, Option.some.injEq] at ho
          subst ho
          have hx := ((Ex.refl (fun _ => False) w80).drew).trans hx (fun _ h => h.elim)
          obtain ⟨v5, s5, e5, y5⟩ := hp 5 (by kernel_rfl)
          have e5 := e5 37 rfl
          obtain rfl : v5 = (.tuple #[.agg #[.int .u8 0, .int .i64 0, .string ⟨#[]⟩, .slice none 0 0, .int .i64 0], .bool false, .int .i64 1]) := s5
          clear y5
          clear hp hb
          refine wantL rfl ⟨.agg #[.int .u8 0, .int .i64 0, .string ⟨#[]⟩, .slice none 0 0, .int .i64 0], w1, ?_, Ex.refl _ _, rfl⟩
          go_simp
        · exact absurd hnl (by decide)
        · exact absurd hnl (by decide)
        · intro o ho ρ yl w1 hx hc hf hgl hp hb
          simp only [List.getElem?_toArray, List.getElem?_cons_succ, List.getElem?_cons_zero, Option.some.injEq] at ho
          subst ho
          have hx := ((Ex.refl (fun _ => False) w80).drew).trans hx (fun _ h => h.elim)
          clear hp hb
          refine wantL rfl ⟨_, _, exec_value (s := Instr.alloc 27 true (.tuple #[])) rfl (alloc27 w1), (Ex.refl _ _).alloc _, ⟨w1.heap.size, rfl, hx.size, blk_new1 _ _⟩⟩
      · intro i hil
        obtain rfl | rfl : i = 7 ∨ i = 8 := by simpa using hil
        · intro o ho ρ yl w1 hx hc hf hgl hp hb
          simp only [List.getElem?_toArray, List.getElem?_cons_succ, List.getElem?_cons_zero, Option.some.injEq] at ho
          subst ho
          have hx := ((Ex.refl (fun _ => False) w80).drew).trans hx (fun _ h => h.elim)
          obtain ⟨v5, s5, e5, y5⟩ := hp 5 (by kernel_rfl)
          have e5 := e5 37 rfl
          obtain rfl : v5 = (.tuple #[.agg #[.int .u8 0, .int .i64 0, .string ⟨#[]⟩, .slice none 0 0, .int .i64 0], .bool false, .int .i64 1]) := s5
          clear y5
          clear hp hb
          refine ⟨.bool false, .inl ⟨rfl, fun w' => ?_⟩, rfl⟩
          go_simp
        · intro o ho ρ yl w1 hx hc hf hgl hp hb
          simp only [List.getElem?_toArray, List.getElem?_cons_succ, List.getElem?_cons_zero, Option.some.injEq] at ho
          subst ho
          have hx := ((Ex.refl (fun _ => False) w80).drew).trans hx (fun _ h => h.elim)
          obtain ⟨v5, s5, e5, y5⟩ := hp 5 (by kernel_rfl)
          have e5 := e5 37 rfl
          obtain rfl : v5 = (.tuple #[.agg #[.int .u8 0, .int .i64 0, .string ⟨#[]⟩, .slice none 0 0, .int .i64 0], .bool false, .int .i64 1]) := s5
          clear y5
          clear hp hb
          refine ⟨.int .i64 1, .inl ⟨rfl, fun w' => ?_⟩, rfl⟩
          go_simp
      · intro xs w1 hx hs K hKK
        have s0 : xs 0 = (.int .i64 0) := hs 0 (by omega)
        have s1 : xs 1 = (.pointer (some ⟨gt, 0, none⟩)) := hs 1 (by omega)
        have s2 : xs 2 = (Value.pointer none) := hs 2 (by omega)
        have s3 : xs 3 = (.agg #[.int .u8 x.f0, .int .i64 x.f1, .string x.f2, .slice A x.f3.length c, .int .i64 x.f4]) := hs 3 (by omega)
        have s4 : xs 4 = (.tuple #[.agg #[.int .u8 0, .int .i64 0, .string ⟨#[]⟩, .slice none 0 0, .int .i64 0], .bool false, .int .i64 1]) := hs 4 (by omega)
        have s5 : xs 5 = (.tuple #[.agg #[.int .u8 0, .int .i64 0, .string ⟨#[]⟩, .slice none 0 0, .int .i64 0], .bool false, .int .i64 1]) := hs 5 (by omega)
        have s6 : xs 6 = (.agg #[.int .u8 0, .int .i64 0, .string ⟨#[]⟩, .slice none 0 0, .int .i64 0]) := hs 6 (by omega)
        have s7 : xs 7 = (.bool false) := hs 7 (by omega)
        have s8 : xs 8 = (.int .i64 1) := hs 8 (by omega)
        have s9 : (At w80.heap.size (.cells #[.int .u8 0, .int .i64 0, .string ⟨#[]⟩, .slice none 0 0, .int .i64 0] 27 (0, 0))) (xs 9) w1 := hs 9 (by omega)
        clear hs
        simp only [putSlots, dstOf, List.getElem?_toArray, List.getElem?_cons_succ, List.getElem?_cons_zero, Option.bind_some, List.setIfInBounds_toArray, List.set_cons_zero, List.set_cons_succ, List.drop_succ_cons, List.drop_zero]
        rw [s0, s1, s2, s3, s4, s5, s6, s7, s8]
        clear s0 s1 s2 s3 s4 s5 s6 s7 s8
        obtain ⟨g11, hg8, hlo, hb8⟩ := s9
        rw [hg8]
        have HB8 := Aside0.mk hb8
        have HLO := Aside0.mk hlo
        have HX1 := Aside0.mk hx
        have q8c0 := (blk_cell hb8 0).trans rfl
        have q8f0 := blk_frozen hb8 0
        have q8c1 := (blk_cell hb8 1).trans rfl
        have q8f1 := blk_frozen hb8 1
        have q8c2 := (blk_cell hb8 2).trans rfl
        have q8f2 := blk_frozen hb8 2
        have q8c3 := (blk_cell hb8 3).trans rfl
        have q8f3 := blk_frozen hb8 3
        have q8c4 := (blk_cell hb8 4).trans rfl
        have q8f4 := blk_frozen hb8 4
        have q8l := lt_of_blk hb8
        clear hg8 hb8 hx hlo HS
        go_wp2_with fail
        go_meet
        exact ⟨g11, rfl, rfl, rfl, ⟨ex_put27 HX1.out (.inr HLO.out) _ _ _ _ _⟩, ⟨put27 HB8.out rfl _ _ _ _ _⟩⟩
    case rest =>
      clear HS
      obtain ⟨g11, rfl, rfl, rfl, HX9, HB11⟩ := hcut
      obtain ⟨w90, rfl⟩ : ∃ w90, w90 = wc := ⟨_, rfl⟩
      have HQ9 := Aside0.mk (HX8.out.trans HX9.out (fun _ h => h.elim))
      have HB8b := Aside0.mk (HX9.out.blk HB8.out (fun h => h))
      have HS : Aside0 (∀ w', Ex (fun _ => False) w90 w' → Ex (fun _ => False) w90 w' ∧ w'.cell? ⟨gt, 0, none⟩ = some ((Value.pointer none)) ∧ w'.cell? ⟨gt, 1, none⟩ = some (.pointer (some ⟨gz, 0, none⟩)) ∧ w'.cell? ⟨gx, 0, none⟩ = some (.int .u8 x.f0) ∧ w'.cell? ⟨gx, 1, none⟩ = some (.int .i64 x.f1) ∧ w'.cell? ⟨gx, 2, none⟩ = some (.string x.f2) ∧ w'.cell? ⟨gx, 3, none⟩ = some (.slice A x.f3.length c) ∧ w'.cell? ⟨gx, 4, none⟩ = some (.int .i64 x.f4) ∧ w'.cell? ⟨gy, 0, none⟩ = some (.int .u8 y.f0) ∧ w'.cell? ⟨gy, 1, none⟩ = some (.int .i64 y.f1) ∧ w'.cell? ⟨gy, 2, none⟩ = some (.string y.f2) ∧ w'.cell? ⟨gy, 3, none⟩ = some (.slice B y.f3.length d) ∧ w'.cell? ⟨gy, 4, none⟩ = some (.int .i64 y.f4)) := ⟨fun w' h => ⟨h, (blk_cell ((HQ9.out.trans h (fun _ h => h.elim)).blk HBT.out (fun h => h)) 0).trans rfl, (blk_cell ((HQ9.out.trans h (fun _ h => h.elim)).blk HBT.out (fun h => h)) 1).trans rfl, (blk_cell ((HQ9.out.trans h (fun _ h => h.elim)).blk HBX.out (fun h => h)) 0).trans rfl, (blk_cell ((HQ9.out.trans h (fun _ h => h.elim)).blk HBX.out (fun h => h)) 1).trans rfl, (blk_cell ((HQ9.out.trans h (fun _ h => h.elim)).blk HBX.out (fun h => h)) 2).trans rfl, (blk_cell ((HQ9.out.trans h (fun _ h => h.elim)).blk HBX.out (fun h => h)) 3).trans rfl, (blk_cell ((HQ9.out.trans h (fun _ h => h.elim)).blk HBX.out (fun h => h)) 4).trans rfl, (blk_cell ((HQ9.out.trans h (fun _ h => h.elim)).blk HBY.out (fun h => h)) 0).trans rfl, (blk_cell ((HQ9.out.trans h (fun _ h => h.elim)).blk HBY.out (fun h => h)) 1).trans rfl, (blk_cell ((HQ9.out.trans h (fun _ h => h.elim)).blk HBY.out (fun h => h)) 2).trans rfl, (blk_cell ((HQ9.out.trans h (fun _ h => h.elim)).blk HBY.out (fun h => h)) 3).trans rfl, (blk_cell ((HQ9.out.trans h (fun _ h => h.elim)).blk HBY.out (fun h => h)) 4).trans rfl⟩⟩
      go_upto_region 10 with (fail)
      go_cut [14, 15] from 46 to 53 (fun s14 s15 wx => s14 = .bool false ∧ s15 = .int .i64 1 ∧ Aside0 (Ex (fun _ => False) w90 wx))
      case first =>
        refine region_by 8 [7] (specL [Is (.int .i64 0), Is (.pointer (some ⟨gt, 0, none⟩)), Is (Value.pointer none), Is (.agg #[.int .u8 x.f0, .int .i64 x.f1, .string x.f2, .slice A x.f3.length c, .int .i64 x.f4]), Is (.tuple #[.bool false, .int .i64 1]), Is (.tuple #[.bool false, .int .i64 1]), Is (.bool false), Is (.int .i64 1)]) (by kernel_rfl) (by kernel_rfl) (stab_all (stab_cons (stab_is _) (stab_cons (stab_is _) (stab_cons (stab_is _) (stab_cons (stab_is _) (stab_cons (stab_is _) (stab_cons (stab_is _) (stab_cons (stab_is _) (stab_cons (stab_is _) (stab_nil)))))))))) ?_ ?_ ?_
        · intro i hi hnl
          obtain rfl | rfl | rfl | rfl | rfl | rfl | rfl | rfl : i = 0 ∨ i = 1 ∨ i = 2 ∨ i = 3 ∨ i = 4 ∨ i = 5 ∨ i = 6 ∨ i = 7 := by omega
          · intro o ho ρ yl w1 hx hc hf hgl hp hb
            simp only [List.getElem?_toArray, List.getElem?_cons_succ, List.getElem?_cons_zero, Option.some.injEq] at ho
            subst ho
            have hx := ((Ex.refl (fun _ => False) w90).drew).trans hx (fun _ h => h.elim)
            have b7 := hb 7 (by kernel_rfl)
            clear hp hb
            refine wantL rfl ⟨.int .i64 0, w1, ?_, Ex.refl _ _, rfl⟩
            go_simp
          · intro o ho ρ yl w1 hx hc hf hgl hp hb
            simp only [List.getElem?_toArray, List.getElem?_cons_succ, List.getElem?_cons_zero, Option.some.injEq] at ho
            subst ho
            have hx := ((Ex.refl (fun _ => False) w90).drew).trans hx (fun _ h => h.elim)
            obtain ⟨v0, s0, e0, y0⟩ := hp 0 (by kernel_rfl)
            have e0 := e0 47 rfl
            obtain rfl : v0 = (.int .i64 0) := s0
            clear y0
            have b6 := hb 6 (by kernel_rfl)
            clear hp hb
            refine wantL rfl ⟨.pointer (some ⟨gt, 0, none⟩), w1, ?_, Ex.refl _ _, rfl⟩
            go_simp
          · intro o ho ρ yl w1 hx hc hf hgl hp hb
            simp only [List.getElem?_toArray, List.getElem?_cons_succ, List.getElem?_cons_zero, Option.some.injEq] at ho
            subst ho
            have hx := ((Ex.refl (fun _ => False) w90).drew).trans hx (fun _ h => h.elim)
            obtain ⟨v1, s1, e1, y1⟩ := hp 1 (by kernel_rfl)
            have e1 := e1 48 rfl
            obtain rfl : v1 = (.pointer (some ⟨gt, 0, none⟩)) := s1
            clear y1
            clear hp hb
            obtain ⟨_, hcells⟩ := HS.out w1 hx
            refine wantL rfl ⟨Value.pointer none, w1, ?_, Ex.refl _ _, rfl⟩
            go_simp
          · intro o ho ρ yl w1 hx hc hf hgl hp hb
            simp only [List.getElem?_toArray, List.getElem?_cons_succ, List.getElem?_cons_zero, Option.some.injEq] at ho
            subst ho
            have hx := ((Ex.refl (fun _ => False) w90).drew).trans hx (fun _ h => h.elim)
            have b2 := hb 2 (by kernel_rfl)
            clear hp hb
            obtain ⟨_, hcells⟩ := HS.out w1 hx
            refine wantL rfl ⟨.agg #[.int .u8 x.f0, .int .i64 x.f1, .string x.f2, .slice A x.f3.length c, .int .i64 x.f4], w1, ?_, Ex.refl _ _, rfl⟩
            go_simp
          · intro o ho ρ yl w1 hx hc hf hgl hp hb
            simp only [List.getElem?_toArray, List.getElem?_cons_succ, List.getElem?_cons_zero, Option.some.injEq] at ho
            subst ho
            have hx := ((Ex.refl (fun _ => False) w90).drew).trans hx (fun _ h => h.elim)
            obtain ⟨v2, s2, e2, y2⟩ := hp 2 (by kernel_rfl)
            have e2 := e2 49 rfl
            obtain rfl : v2 = (Value.pointer none) := s2
            clear y2
            obtain ⟨v3, s3, e3, y3⟩ := hp 3 (by kernel_rfl)
            have e3 := e3 50 rfl
            obtain rfl : v3 = (.agg #[.int .u8 x.f0, .int .i64 x.f1, .string x.f2, .slice A x.f3.length c, .int .i64 x.f4]) := s3
            clear y3
            clear hp hb
            refine wantR rfl ⟨24, #[Value.pointer none, .agg #[.int .u8 x.f0, .int .i64 x.f1, .string x.f2, .slice A x.f3.length c, .int .i64 x.f4]], exec_call' Try.func24 (by kernel_rfl) rfl _ rfl (by simp [e2, e3]) (hf 24), ?_⟩
            refine (drop_nt (Value.pointer none) _ (HN.out.ex0 (HQ9.out.trans hx (fun _ h => h.elim))) x.f0 x.f1 x.f4 x.f2 A x.f3.length c).mono ?_
            rintro e wq ⟨rfl, hq0⟩
            exact ⟨_, rfl, hq0, rfl⟩
          · intro o ho ρ yl w1 hx hc hf hgl hp hb
            simp only [List.getElem?_toArray, List.getElem?_cons_succ, List.getElem?_cons_zero, Option.some.injEq] at ho
            subst ho
            have hx := ((Ex.refl (fun _ => False) w90).drew).trans hx (fun _ h => h.elim)
            obtain ⟨v4, s4, e4, y4⟩ := hp 4 (by kernel_rfl)
            have e4 := e4 51 rfl
            obtain rfl : v4 = (.tuple #[.bool false, .int .i64 1]) := s4
            clear y4
            clear hp hb
            refine wantL rfl ⟨.tuple #[.bool false, .int .i64 1], w1, ?_, Ex.refl _ _, rfl⟩
            go_simp
          · intro o ho ρ yl w1 hx hc hf hgl hp hb
            simp only [List.getElem?_toArray, List.getElem?_cons_succ, List.getElem?_cons_zero, Option.some.injEq] at ho
            subst ho
            have hx := ((Ex.refl (fun _ => False) w90).drew).trans hx (fun _ h => h.elim)
            obtain ⟨v5, s5, e5, y5⟩ := hp 5 (by kernel_rfl)
            have e5 := e5 46 rfl
            obtain rfl : v5 = (.tuple #[.bool false, .int .i64 1]) := s5
            clear y5
            clear hp hb
            refine wantL rfl ⟨.bool false, w1, ?_, Ex.refl _ _, rfl⟩
            go_simp
          · exact absurd hnl (by decide)
        · intro i hil
          obtain rfl : i = 7 := by simpa using hil
          · intro o ho ρ yl w1 hx hc hf hgl hp hb
            simp only [List.getElem?_toArray, List.getElem?_cons_succ, List.getElem?_cons_zero, Option.some.injEq] at ho
            subst ho
            have hx := ((Ex.refl (fun _ => False) w90).drew).trans hx (fun _ h => h.elim)
            obtain ⟨v5, s5, e5, y5⟩ := hp 5 (by kernel_rfl)
            have e5 := e5 46 rfl
            obtain rfl : v5 = (.tuple #[.bool false, .int .i64 1]) := s5
            clear y5
            clear hp hb
            refine ⟨.int .i64 1, .inl ⟨rfl, fun w' => ?_⟩, rfl⟩
            go_simp
        · intro xs w1 hx hs K hKK
          have s0 : xs 0 = (.int .i64 0) := hs 0 (by omega)
          have s1 : xs 1 = (.pointer (some ⟨gt, 0, none⟩)) := hs 1 (by omega)
          have s2 : xs 2 = (Value.pointer none) := hs 2 (by omega)
          have s3 : xs 3 = (.agg #[.int .u8 x.f0, .int .i64 x.f1, .string x.f2, .slice A x.f3.length c, .int .i64 x.f4]) := hs 3 (by omega)
          have s4 : xs 4 = (.tuple #[.bool false, .int .i64 1]) := hs 4 (by omega)
          have s5 : xs 5 = (.tuple #[.bool false, .int .i64 1]) := hs 5 (by omega)
          have s6 : xs 6 = (.bool false) := hs 6 (by omega)
          have s7 : xs 7 = (.int .i64 1) := hs 7 (by omega)
          clear hs
          simp only [putSlots, dstOf, List.getElem?_toArray, List.getElem?_cons_succ, List.getElem?_cons_zero, Option.bind_some, List.setIfInBounds_toArray, List.set_cons_zero, List.set_cons_succ, List.drop_succ_cons, List.drop_zero]
          rw [s0, s1, s2, s3, s4, s5, s6, s7]
          clear s0 s1 s2 s3 s4 s5 s6 s7
          have HX1 := Aside0.mk hx
          clear hx HS
          go_wp2_with fail
          go_meet
          exact ⟨rfl, rfl, HX1⟩
      case rest =>
        clear HS
        obtain ⟨rfl, rfl, HXA⟩ := hcut
        obtain ⟨wa0, rfl⟩ : ∃ wa0, wa0 = wc := ⟨_, rfl⟩
        have HQA := Aside0.mk (HQ9.out.trans HXA.out (fun _ h => h.elim))
        have HB8c := Aside0.mk (HXA.out.blk HB8b.out (fun h => h))
        have HB11c := Aside0.mk (HXA.out.blk HB11.out (fun h => h))
        have t0 := (blk_cell (HQA.out.blk HBT.out (fun h => h)) 0).trans rfl
        have t1 := (blk_cell (HQA.out.blk HBT.out (fun h => h)) 1).trans rfl
        have tl := lt_of_blk (HQA.out.blk HBT.out (fun h => h))
        go_wp2_with fail
        refine (all_calls (Value.pointer none) _ rfl).mono ?_
        rintro e wq ⟨rfl, rfl⟩
        have q8c0 := (blk_cell HB8c.out 0).trans rfl
        have q8f0 := blk_frozen HB8c.out 0
        have q8c1 := (blk_cell HB8c.out 1).trans rfl
        have q8f1 := blk_frozen HB8c.out 1
        have q8c2 := (blk_cell HB8c.out 2).trans rfl
        have q8f2 := blk_frozen HB8c.out 2
        have q8c3 := (blk_cell HB8c.out 3).trans rfl
        have q8f3 := blk_frozen HB8c.out 3
        have q8c4 := (blk_cell HB8c.out 4).trans rfl
        have q8f4 := blk_frozen HB8c.out 4
        have q8l := lt_of_blk HB8c.out
        have q11c0 := (blk_cell HB11c.out 0).trans rfl
        have q11f0 := blk_frozen HB11c.out 0
        have q11c1 := (blk_cell HB11c.out 1).trans rfl
        have q11f1 := blk_frozen HB11c.out 1
        have q11c2 := (blk_cell HB11c.out 2).trans rfl
        have q11f2 := blk_frozen HB11c.out 2
        have q11c3 := (blk_cell HB11c.out 3).trans rfl
        have q11f3 := blk_frozen HB11c.out 3
        have q11c4 := (blk_cell HB11c.out 4).trans rfl
        have q11f4 := blk_frozen HB11c.out 4
        have q11l := lt_of_blk HB11c.out
        have hfq : ∀ (p : Value) (w : World), (binOp .eql 68 (.func (.func 48) #[] #[p]) .nilFunc).run Try.prog w = .ok (.bool false) w := fun p w => by kernel_rfl
        go_wp2_with fail
        refine (same_zero _).mono ?_
        rintro e wb1 ⟨rfl, hb1⟩
        obtain ⟨rc1, rf1⟩ := (Ex.of_below (S := fun _ => False) hb1).cells
        have HE1 := Aside0.mk (Ex.of_below (S := fun _ => False) hb1)
        clear hb1
        go_wp2_with fail
        refine (same_zero _).mono ?_
        rintro e wb2 ⟨rfl, hb2⟩
        have HE2 := Aside0.mk (HE1.out.then_below hb2)
        clear rc1 rf1 hb2
        obtain ⟨rc1, rf1⟩ := HE2.out.cells
        go_wp2_with fail
        refine (len_nt (Value.pointer none) _ (HN.out.ex0 ((HQA.out.alloc _).trans HE2.out (fun _ h => h.elim)))).mono ?_
        rintro e wb3 ⟨rfl, rfl⟩
        go_wp2_with fail
        refine (copy_nt (Value.pointer none) _ (HN.out.ex0 ((HQA.out.alloc _).trans HE2.out (fun _ h => h.elim)))).mono ?_
        rintro e wb4 ⟨rfl, rfl⟩
        go_wp2_with fail
        have HBC := Aside0.mk (HE2.out.blk (blk_new1 _ _) (fun h => h))
        have HNC := Aside0.mk (HN.out.ex0 ((HQA.out.alloc _).trans HE2.out (fun _ h => h.elim)))
        have HQE := Aside0.mk ((HQA.out.alloc (.cells #[Value.pointer none] 39)).trans HE2.out (fun _ h => h.elim))
        clear rc1 rf1 t0 t1 tl hfq q8c0 q8c1 q8c2 q8c3 q8c4 q8f0 q8f1 q8f2 q8f3 q8f4 q11c0 q11c1 q11c2 q11c3 q11c4 q11f0 q11f1 q11f2 q11f3 q11f4 q8l q11l
        refine wp_range_none (gf := 48) (lb := #[.pointer (some ⟨wa0.heap.size, 0, none⟩)]) rfl (fun args w => enters_ Try.func48 (by kernel_rfl) rfl args w) ?_ ?_
        · intro l W hW
          exact iter_nt _ _ _ W (HNC.out.ex0 (Ex.of_below hW)) ((Ex.of_below (S := fun _ => False) hW).blk HBC.out (fun h => h))
        · intro D0 W0 hD0 hW0 hK0
          have HD0 := Aside0.mk hK0
          have HY0 := Aside0.mk (HQE.out.then_below hW0)
          have HLE := Aside0.mk (Nat.le_trans HQE.out.size hD0)
          have HLD0 := Aside0.mk (Nat.le_trans (HX2.out.trans HQE.out (fun _ h => h.elim)).size hD0)
          clear hD0 hW0 hK0 HX8 HX9 HXA HQ9 HQA HE1 HE2 HB8 HB11 HB8b HB8c HB11c HBC HNC HQE
          go_wp2_with fail
          have HBX := Aside0.mk (HY0.out.blk HBX.out (fun h => h))
          have HBY := Aside0.mk (HY0.out.blk HBY.out (fun h => h))
          have HBT := Aside0.mk (HY0.out.blk HBT.out (fun h => h))
          have HBR2 := Aside0.mk (HY0.out.blk HBR2.out (fun h => h))
          have HBZ2 := Aside0.mk (HY0.out.blk HBZ2.out (fun h => h))
          have HX2 := Aside0.mk (HX2.out.trans HY0.out (fun _ h => h.elim))
          have HN := Aside0.mk (show NoTab W0 (Value.pointer (some ⟨gz, 0, none⟩)) from .inr ⟨gz, _, _, rfl, HBZ2.out⟩)
          rw [rounds_succ]
          have HL0 := Aside0.mk (lt_of_blk HD0.out)
          have HS : Aside0 (∀ w', Ex (fun _ => False) W0 w' → Ex (fun _ => False) W0 w' ∧ w'.cell? ⟨gt, 0, none⟩ = some ((Value.pointer none)) ∧ w'.cell? ⟨gt, 1, none⟩ = some (.pointer (some ⟨gz, 0, none⟩)) ∧ w'.cell? ⟨gx, 0, none⟩ = some (.int .u8 x.f0) ∧ w'.cell? ⟨gx, 1, none⟩ = some (.int .i64 x.f1) ∧ w'.cell? ⟨gx, 2, none⟩ = some (.string x.f2) ∧ w'.cell? ⟨gx, 3, none⟩ = some (.slice A x.f3.length c) ∧ w'.cell? ⟨gx, 4, none⟩ = some (.int .i64 x.f4) ∧ w'.cell? ⟨gy, 0, none⟩ = some (.int .u8 y.f0) ∧ w'.cell? ⟨gy, 1, none⟩ = some (.int .i64 y.f1) ∧ w'.cell? ⟨gy, 2, none⟩ = some (.string y.f2) ∧ w'.cell? ⟨gy, 3, none⟩ = some (.slice B y.f3.length d) ∧ w'.cell? ⟨gy, 4, none⟩ = some (.int .i64 y.f4)) := ⟨fun w' h => ⟨h, (blk_cell (((Ex.refl (fun _ => False) W0).trans h (fun _ h => h.elim)).blk HBT.out (fun h => h)) 0).trans rfl, (blk_cell (((Ex.refl (fun _ => False) W0).trans h (fun _ h => h.elim)).blk HBT.out (fun h => h)) 1).trans rfl, (blk_cell (((Ex.refl (fun _ => False) W0).trans h (fun _ h => h.elim)).blk HBX.out (fun h => h)) 0).trans rfl, (blk_cell (((Ex.refl (fun _ => False) W0).trans h (fun _ h => h.elim)).blk HBX.out (fun h => h)) 1).trans rfl, (blk_cell (((Ex.refl (fun _ => False) W0).trans h (fun _ h => h.elim)).blk HBX.out (fun h => h)) 2).trans rfl, (blk_cell (((Ex.refl (fun _ => False) W0).trans h (fun _ h => h.elim)).blk HBX.out (fun h => h)) 3).trans rfl, (blk_cell (((Ex.refl (fun _ => False) W0).trans h (fun _ h => h.elim)).blk HBX.out (fun h => h)) 4).trans rfl, (blk_cell (((Ex.refl (fun _ => False) W0).trans h (fun _ h => h.elim)).blk HBY.out (fun h => h)) 0).trans rfl, (blk_cell (((Ex.refl (fun _ => False) W0).trans h (fun _ h => h.elim)).blk HBY.out (fun h => h)) 1).trans rfl, (blk_cell (((Ex.refl (fun _ => False) W0).trans h (fun _ h => h.elim)).blk HBY.out (fun h => h)) 2).trans rfl, (blk_cell (((Ex.refl (fun _ => False) W0).trans h (fun _ h => h.elim)).blk HBY.out (fun h => h)) 3).trans rfl, (blk_cell (((Ex.refl (fun _ => False) W0).trans h (fun _ h => h.elim)).blk HBY.out (fun h => h)) 4).trans rfl⟩⟩
          go_upto_region 8 with (fail)
          go_cut [8, 9, 10] from 27 to 36 (fun s8 s9 s10 wx => ∃ g8, s8 = .pointer (some ⟨g8, 0, none⟩) ∧ s9 = .bool false ∧ s10 = .int .i64 1 ∧ Aside0 (Ex (fun _ => False) W0 wx) ∧ Aside0 (wx.heap[g8]? = some (.cells #[.int .u8 0, .int .i64 0, .string ⟨#[]⟩, .slice none 0 0, .int .i64 0] 27 (0, 0))))
          case first =>
            refine region_by 11 [8, 9] (specL [Is (.int .i64 1), Is (.pointer (some ⟨gt, 1, none⟩)), Is (Value.pointer (some ⟨gz, 0, none⟩)), Is (.agg #[.int .u8 x.f0, .int .i64 x.f1, .string x.f2, .slice A x.f3.length c, .int .i64 x.f4]), Is (.agg #[.int .u8 y.f0, .int .i64 y.f1, .string y.f2, .slice B y.f3.length d, .int .i64 y.f4]), Is (.tuple #[.agg #[.int .u8 0, .int .i64 0, .string ⟨#[]⟩, .slice none 0 0, .int .i64 0], .bool false, .int .i64 1]), Is (.tuple #[.agg #[.int .u8 0, .int .i64 0, .string ⟨#[]⟩, .slice none 0 0, .int .i64 0], .bool false, .int .i64 1]), Is (.agg #[.int .u8 0, .int .i64 0, .string ⟨#[]⟩, .slice none 0 0, .int .i64 0]), Is (.bool false), Is (.int .i64 1), At W0.heap.size (.cells #[.int .u8 0, .int .i64 0, .string ⟨#[]⟩, .slice none 0 0, .int .i64 0] 27 (0, 0))]) (by kernel_rfl) (by kernel_rfl) (stab_all (stab_cons (stab_is _) (stab_cons (stab_is _) (stab_cons (stab_is _) (stab_cons (stab_is _) (stab_cons (stab_is _) (stab_cons (stab_is _) (stab_cons (stab_is _) (stab_cons (stab_is _) (stab_cons (stab_is _) (stab_cons (stab_is _) (stab_cons (stab_at _ _) (stab_nil))))))))))))) ?_ ?_ ?_
            · intro i hi hnl
              obtain rfl | rfl | rfl | rfl | rfl | rfl | rfl | rfl | rfl | rfl | rfl : i = 0 ∨ i = 1 ∨ i = 2 ∨ i = 3 ∨ i = 4 ∨ i = 5 ∨ i = 6 ∨ i = 7 ∨ i = 8 ∨ i = 9 ∨ i = 10 := by omega
              · intro o ho ρ yl w1 hx hc hf hgl hp hb
                simp only [List.getElem?_toArray, List.getElem?_cons_succ, List.getElem?_cons_zero, Option.some.injEq] at ho
                subst ho
                have hx := ((Ex.refl (fun _ => False) W0).drew).trans hx (fun _ h => h.elim)
                have b7 := hb 7 (by kernel_rfl)
                clear hp hb
                refine wantL rfl ⟨.int .i64 1, w1, ?_, Ex.refl _ _, rfl⟩
                go_simp
              · intro o ho ρ yl w1 hx hc hf hgl hp hb
                simp only [List.getElem?_toArray, List.getElem?_cons_succ, List.getElem?_cons_zero, Option.some.injEq] at ho
                subst ho
                have hx := ((Ex.refl (fun _ => False) W0).drew).trans hx (fun _ h => h.elim)
                obtain ⟨v0, s0, e0, y0⟩ := hp 0 (by kernel_rfl)
                have e0 := e0 28 rfl
                obtain rfl : v0 = (.int .i64 1) := s0
                clear y0
                have b6 := hb 6 (by kernel_rfl)
                clear hp hb
                refine wantL rfl ⟨.pointer (some ⟨gt, 1, none⟩), w1, ?_, Ex.refl _ _, rfl⟩
                go_simp
              · intro o ho ρ yl w1 hx hc hf hgl hp hb
                simp only [List.getElem?_toArray, List.getElem?_cons_succ, List.getElem?_cons_zero, Option.some.injEq] at ho
                subst ho
                have hx := ((Ex.refl (fun _ => False) W0).drew).trans hx (fun _ h => h.elim)
                obtain ⟨v1, s1, e1, y1⟩ := hp 1 (by kernel_rfl)
                have e1 := e1 29 rfl
                obtain rfl : v1 = (.pointer (some ⟨gt, 1, none⟩)) := s1
                clear y1
                clear hp hb
                obtain ⟨_, hcells⟩ := HS.out w1 hx
                refine wantL rfl ⟨Value.pointer (some ⟨gz, 0, none⟩), w1, ?_, Ex.refl _ _, rfl⟩
                go_simp
              · intro o ho ρ yl w1 hx hc hf hgl hp hb
                simp only [List.getElem?_toArray, List.getElem?_cons_succ, List.getElem?_cons_zero, Option.some.injEq] at ho
                subst ho
                have hx := ((Ex.refl (fun _ => False) W0).drew).trans hx (fun _ h => h.elim)
                have b2 := hb 2 (by kernel_rfl)
                clear hp hb
                obtain ⟨_, hcells⟩ := HS.out w1 hx
                refine wantL rfl ⟨.agg #[.int .u8 x.f0, .int .i64 x.f1, .string x.f2, .slice A x.f3.length c, .int .i64 x.f4], w1, ?_, Ex.refl _ _, rfl⟩
                go_simp
              · intro o ho ρ yl w1 hx hc hf hgl hp hb
                simp only [List.getElem?_toArray, List.getElem?_cons_succ, List.getElem?_cons_zero, Option.some.injEq] at ho
                subst ho
                have hx := ((Ex.refl (fun _ => False) W0).drew).trans hx (fun _ h => h.elim)
                have b3 := hb 3 (by kernel_rfl)
                clear hp hb
                obtain ⟨_, hcells⟩ := HS.out w1 hx
                refine wantL rfl ⟨.agg #[.int .u8 y.f0, .int .i64 y.f1, .string y.f2, .slice B y.f3.length d, .int .i64 y.f4], w1, ?_, Ex.refl _ _, rfl⟩
                go_simp
              · intro o ho ρ yl w1 hx hc hf hgl hp hb
                simp only [List.getElem?_toArray, List.getElem?_cons_succ, List.getElem?_cons_zero, Option.some.injEq] at ho
                subst ho
                have hx := ((Ex.refl (fun _ => False) W0).drew).trans hx (fun _ h => h.elim)
                obtain ⟨v2, s2, e2, y2⟩ := hp 2 (by kernel_rfl)
                have e2 := e2 30 rfl
                obtain rfl : v2 = (Value.pointer (some ⟨gz, 0, none⟩)) := s2
                clear y2
                obtain ⟨v3, s3, e3, y3⟩ := hp 3 (by kernel_rfl)
                have e3 := e3 31 rfl
                obtain rfl : v3 = (.agg #[.int .u8 x.f0, .int .i64 x.f1, .string x.f2, .slice A x.f3.length c, .int .i64 x.f4]) := s3
                clear y3
                obtain ⟨v4, s4, e4, y4⟩ := hp 4 (by kernel_rfl)
                have e4 := e4 32 rfl
                obtain rfl : v4 = (.agg #[.int .u8 y.f0, .int .i64 y.f1, .string y.f2, .slice B y.f3.length d, .int .i64 y.f4]) := s4
                clear y4
                clear hp hb
                refine wantR rfl ⟨15, #[Value.pointer (some ⟨gz, 0, none⟩), .agg #[.int .u8 x.f0, .int .i64 x.f1, .string x.f2, .slice A x.f3.length c, .int .i64 x.f4], .agg #[.int .u8 y.f0, .int .i64 y.f1, .string y.f2, .slice B y.f3.length d, .int .i64 y.f4]], exec_call' Try.func15 (by kernel_rfl) rfl _ rfl (by simp [e2, e3, e4]) (hf 15), ?_⟩
                refine (put_nt (Value.pointer (some ⟨gz, 0, none⟩)) _ (HN.out.ex0 hx) x.f0 x.f1 x.f4 x.f2 A x.f3.length c y.f0 y.f1 y.f4 y.f2 B y.f3.length d).mono ?_
                rintro e wq ⟨rfl, hq0⟩
                exact ⟨_, rfl, hq0, rfl⟩
              · intro o ho ρ yl w1 hx hc hf hgl hp hb
                simp only [List.getElem?_toArray, List.getElem?_cons_succ, List.getElem?_cons_zero, Option.some.injEq] at ho
                subst ho
                have hx := ((Ex.refl (fun _ => False) W0).drew).trans hx (fun _ h => h.elim)
                obtain ⟨v5, s5, e5, y5⟩ := hp 5 (by kernel_rfl)
                have e5 := e5 33 rfl
                obtain rfl : v5 = (.tuple #[.agg #[.int .u8 0, .int .i64 0, .string ⟨#[]⟩, .slice none 0 0, .int .i64 0], .bool false, .int .i64 1]) := s5
                clear y5
                clear hp hb
                refine wantL rfl ⟨.tuple #[.agg #[.int .u8 0, .int .i64 0, .string ⟨#[]⟩, .slice none 0 0, .int .i64 0], .bool false, .int .i64 1], w1, ?_, Ex.refl _ _, rfl⟩
                go_simp
              · intro o ho ρ yl w1 hx hc hf hgl hp hb
                simp only [List.getElem?_toArray, List.getElem?_cons_succ, List.getElem?_cons_zero, Option.some.injEq] at ho
                subst ho
                have hx := ((Ex.refl (fun _ => False) W0).drew).trans hx (fun _ h => h.elim)
                obtain ⟨v6, s6, e6, y6⟩ := hp 6 (by kernel_rfl)
                have e6 := e6 27 rfl
                obtain rfl : v6 = (.tuple #[.agg #[.int .u8 0, .int .i64 0, .string ⟨#[]⟩, .slice none 0 0, .int .i64 0], .bool false, .int .i64 1]) := s6
                clear y6
                clear hp hb
                refine wantL rfl ⟨.agg #[.int .u8 0, .int .i64 0, .string ⟨#[]⟩, .slice none 0 0, .int .i64 0], w1, ?_, Ex.refl _ _, rfl⟩
                go_simp
              · exact absurd hnl (by decide)
              · exact absurd hnl (by decide)
              · intro o ho ρ yl w1 hx hc hf hgl hp hb
                simp only [List.getElem?_toArray, List.getElem?_cons_succ, List.getElem?_cons_zero, Option.some.injEq] at ho
                subst ho
                have hx := ((Ex.refl (fun _ => False) W0).drew).trans hx (fun _ h => h.elim)
                clear hp hb
                refine wantL rfl ⟨_, _, exec_value (s := Instr.alloc 27 true (.tuple #[])) rfl (alloc27 w1), (Ex.refl _ _).alloc _, ⟨w1.heap.size, rfl, hx.size, blk_new1 _ _⟩⟩
            · intro i hil
              obtain rfl | rfl : i = 8 ∨ i = 9 := by simpa using hil
              · intro o ho ρ yl w1 hx hc hf hgl hp hb
                simp only [List.getElem?_toArray, List.getElem?_cons_succ, List.getElem?_cons_zero, Option.some.injEq] at ho
                subst ho
                have hx := ((Ex.refl (fun _ => False) W0).drew).trans hx (fun _ h => h.elim)
                obtain ⟨v6, s6, e6, y6⟩ := hp 6 (by kernel_rfl)
                have e6 := e6 27 rfl
                obtain rfl : v6 = (.tuple #[.agg #[.int .u8 0, .int .i64 0, .string ⟨#[]⟩, .slice none 0 0, .int .i64 0], .bool false, .int .i64 1]) := s6
                clear y6
                clear hp hb
                refine ⟨.bool false, .inl ⟨rfl, fun w' => ?_⟩, rfl⟩
                go_simp
              · intro o ho ρ yl w1 hx hc hf hgl hp hb
                simp only [List.getElem?_toArray, List.getElem?_cons_succ, List.getElem?_cons_zero, Option.some.injEq] at ho
                subst ho
                have hx := ((Ex.refl (fun _ => False) W0).drew).trans hx (fun _ h => h.elim)
                obtain ⟨v6, s6, e6, y6⟩ := hp 6 (by kernel_rfl)
                have e6 := e6 27 rfl
                obtain rfl : v6 = (.tuple #[.agg #[.int .u8 0, .int .i64 0, .string ⟨#[]⟩, .slice none 0 0, .int .i64 0], .bool false, .int .i64 1]) := s6
                clear y6
                clear hp hb
                refine ⟨.int .i64 1, .inl ⟨rfl, fun w' => ?_⟩, rfl⟩
                go_simp
            · intro xs w1 hx hs K hKK
              have s0 : xs 0 = (.int .i64 1) := hs 0 (by omega)
              have s1 : xs 1 = (.pointer (some ⟨gt, 1, none⟩)) := hs 1 (by omega)
              have s2 : xs 2 = (Value.pointer (some ⟨gz, 0, none⟩)) := hs 2 (by omega)
              have s3 : xs 3 = (.agg #[.int .u8 x.f0, .int .i64 x.f1, .string x.f2, .slice A x.f3.length c, .int .i64 x.f4]) := hs 3 (by omega)
              have s4 : xs 4 = (.agg #[.int .u8 y.f0, .int .i64 y.f1, .string y.f2, .slice B y.f3.length d, .int .i64 y.f4]) := hs 4 (by omega)
              have s5 : xs 5 = (.tuple #[.agg #[.int .u8 0, .int .i64 0, .string ⟨#[]⟩, .slice none 0 0, .int .i64 0], .bool false, .int .i64 1]) := hs 5 (by omega)
              have s6 : xs 6 = (.tuple #[.agg #[.int .u8 0, .int .i64 0, .string ⟨#[]⟩, .slice none 0 0, .int .i64 0], .bool false, .int .i64 1]) := hs 6 (by omega)
              have s7 : xs 7 = (.agg #[.int .u8 0, .int .i64 0, .string ⟨#[]⟩, .slice none 0 0, .int .i64 0]) := hs 7 (by omega)
              have s8 : xs 8 = (.bool false) := hs 8 (by omega)
              have s9 : xs 9 = (.int .i64 1) := hs 9 (by omega)
              have s10 : (At W0.heap.size (.cells #[.int .u8 0, .int .i64 0, .string ⟨#[]⟩, .slice none 0 0, .int .i64 0] 27 (0, 0))) (xs 10) w1 := hs 10 (by omega)
              clear hs
              simp only [putSlots, dstOf, List.getElem?_toArray, List.getElem?_cons_succ, List.getElem?_cons_zero, Option.bind_some, List.setIfInBounds_toArray, List.set_cons_zero, List.set_cons_succ, List.drop_succ_cons, List.drop_zero]
              rw [s0, s1, s2, s3, s4, s5, s6, s7, s8, s9]
              clear s0 s1 s2 s3 s4 s5 s6 s7 s8 s9
              obtain ⟨g8, hg8, hlo, hb8⟩ := s10
              rw [hg8]
              have HB8 := Aside0.mk hb8
              have HLO := Aside0.mk hlo
              have HX1 := Aside0.mk hx
              have q8c0 := (blk_cell hb8 0).trans rfl
              have q8f0 := blk_frozen hb8 0
              have q8c1 := (blk_cell hb8 1).trans rfl
              have q8f1 := blk_frozen hb8 1
              have q8c2 := (blk_cell hb8 2).trans rfl
              have q8f2 := blk_frozen hb8 2
              have q8c3 := (blk_cell hb8 3).trans rfl
              have q8f3 := blk_frozen hb8 3
              have q8c4 := (blk_cell hb8 4).trans rfl
              have q8f4 := blk_frozen hb8 4
              have q8l := lt_of_blk hb8
              clear hg8 hb8 hx hlo HS
              go_wp2_with fail
              go_meet
              exact ⟨g8, rfl, rfl, rfl, ⟨ex_put27 HX1.out (.inr HLO.out) _ _ _ _ _⟩, ⟨put27 HB8.out rfl _ _ _ _ _⟩⟩
          case rest =>
            clear HS
            obtain ⟨g8, rfl, rfl, rfl, HX8, HB8⟩ := hcut
            obtain ⟨w81, rfl⟩ : ∃ w81, w81 = wc := ⟨_, rfl⟩
            have HS : Aside0 (∀ w', Ex (fun _ => False) w81 w' → Ex (fun _ => False) w81 w' ∧ w'.cell? ⟨gt, 0, none⟩ = some ((Value.pointer none)) ∧ w'.cell? ⟨gt, 1, none⟩ = some (.pointer (some ⟨gz, 0, none⟩)) ∧ w'.cell? ⟨gx, 0, none⟩ = some (.int .u8 x.f0) ∧ w'.cell? ⟨gx, 1, none⟩ = some (.int .i64 x.f1) ∧ w'.cell? ⟨gx, 2, none⟩ = some (.string x.f2) ∧ w'.cell? ⟨gx, 3, none⟩ = some (.slice A x.f3.length c) ∧ w'.cell? ⟨gx, 4, none⟩ = some (.int .i64 x.f4) ∧ w'.cell? ⟨gy, 0, none⟩ = some (.int .u8 y.f0) ∧ w'.cell? ⟨gy, 1, none⟩ = some (.int .i64 y.f1) ∧ w'.cell? ⟨gy, 2, none⟩ = some (.string y.f2) ∧ w'.cell? ⟨gy, 3, none⟩ = some (.slice B y.f3.length d) ∧ w'.cell? ⟨gy, 4, none⟩ = some (.int .i64 y.f4)) := ⟨fun w' h => ⟨h, (blk_cell ((HX8.out.trans h (fun _ h => h.elim)).blk HBT.out (fun h => h)) 0).trans rfl, (blk_cell ((HX8.out.trans h (fun _ h => h.elim)).blk HBT.out (fun h => h)) 1).trans rfl, (blk_cell ((HX8.out.trans h (fun _ h => h.elim)).blk HBX.out (fun h => h)) 0).trans rfl, (blk_cell ((HX8.out.trans h (fun _ h => h.elim)).blk HBX.out (fun h => h)) 1).trans rfl, (blk_cell ((HX8.out.trans h (fun _ h => h.elim)).blk HBX.out (fun h => h)) 2).trans rfl, (blk_cell ((HX8.out.trans h (fun _ h => h.elim)).blk HBX.out (fun h => h)) 3).trans rfl, (blk_cell ((HX8.out.trans h (fun _ h => h.elim)).blk HBX.out (fun h => h)) 4).trans rfl, (blk_cell ((HX8.out.trans h (fun _ h => h.elim)).blk HBY.out (fun h => h)) 0).trans rfl, (blk_cell ((HX8.out.trans h (fun _ h => h.elim)).blk HBY.out (fun h => h)) 1).trans rfl, (blk_cell ((HX8.out.trans h (fun _ h => h.elim)).blk HBY.out (fun h => h)) 2).trans rfl, (blk_cell ((HX8.out.trans h (fun _ h => h.elim)).blk HBY.out (fun h => h)) 3).trans rfl, (blk_cell ((HX8.out.trans h (fun _ h => h.elim)).blk HBY.out (fun h => h)) 4).trans rfl⟩⟩
            go_upto_region 9 with (fail)
            go_cut [11, 12, 13] from 37 to 45 (fun s11 s12 s13 wx => ∃ g11, s11 = .pointer (some ⟨g11, 0, none⟩) ∧ s12 = .bool false ∧ s13 = .int .i64 1 ∧ Aside0 (Ex (fun _ => False) w81 wx) ∧ Aside0 (wx.heap[g11]? = some (.cells #[.int .u8 0, .int .i64 0, .string ⟨#[]⟩, .slice none 0 0, .int .i64 0] 27 (0, 0))))
            case first =>
              refine region_by 10 [7, 8] (specL [Is (.int .i64 1), Is (.pointer (some ⟨gt, 1, none⟩)), Is (Value.pointer (some ⟨gz, 0, none⟩)), Is (.agg #[.int .u8 x.f0, .int .i64 x.f1, .string x.f2, .slice A x.f3.length c, .int .i64 x.f4]), Is (.tuple #[.agg #[.int .u8 0, .int .i64 0, .string ⟨#[]⟩, .slice none 0 0, .int .i64 0], .bool false, .int .i64 1]), Is (.tuple #[.agg #[.int .u8 0, .int .i64 0, .string ⟨#[]⟩, .slice none 0 0, .int .i64 0], .bool false, .int .i64 1]), Is (.agg #[.int .u8 0, .int .i64 0, .string ⟨#[]⟩, .slice none 0 0, .int .i64 0]), Is (.bool false), Is (.int .i64 1), At w81.heap.size (.cells #[.int .u8 0, .int .i64 0, .string ⟨#[]⟩, .slice none 0 0, .int .i64 0] 27 (0, 0))]) (by kernel_rfl) (by kernel_rfl) (stab_all (stab_cons (stab_is _) (stab_cons (stab_is _) (stab_cons (stab_is _) (stab_cons (stab_is _) (stab_cons (stab_is _) (stab_cons (stab_is _) (stab_cons (stab_is _) (stab_cons (stab_is _) (stab_cons (stab_is _) (stab_cons (stab_at _ _) (stab_nil)))))))))))) ?_ ?_ ?_
              · intro i hi hnl
                obtain rfl | rfl | rfl | rfl | rfl | rfl | rfl | rfl | rfl | rfl : i = 0 ∨ i = 1 ∨ i = 2 ∨ i = 3 ∨ i = 4 ∨ i = 5 ∨ i = 6 ∨ i = 7 ∨ i = 8 ∨ i = 9 := by omega
                · intro o ho ρ yl w1 hx hc hf hgl hp hb
                  simp only [List.getElem?_toArray, List.getElem?_cons_succ, List.getElem?_cons_zero, Option.some.injEq] at ho
                  subst ho
                  have hx := ((Ex.refl (fun _ => False) w81).drew).trans hx (fun _ h => h.elim)
                  have b7 := hb 7 (by kernel_rfl)
                  clear hp hb
                  refine wantL rfl ⟨.int .i64 1, w1, ?_, Ex.refl _ _, rfl⟩
                  go_simp
                · intro o ho ρ yl w1 hx hc hf hgl hp hb
                  simp only [List.getElem?_toArray, List.getElem?_cons_succ, List.getElem?_cons_zero, Option.some.injEq] at ho
                  subst ho
                  have hx := ((Ex.refl (fun _ => False) w81).drew).trans hx (fun _ h => h.elim)
                  obtain ⟨v0, s0, e0, y0⟩ := hp 0 (by kernel_rfl)
                  have e0 := e0 38 rfl
                  obtain rfl : v0 = (.int .i64 1) := s0
                  clear y0
                  have b6 := hb 6 (by kernel_rfl)
                  clear hp hb
                  refine wantL rfl ⟨.pointer (some ⟨gt, 1, none⟩), w1, ?_, Ex.refl _ _, rfl⟩
                  go_simp
                · intro o ho ρ yl w1 hx hc hf hgl hp hb
                  simp only [List.getElem?_toArray, List.getElem?_cons_succ, List.getElem?_cons_zero, Option.some.injEq] at ho
                  subst ho
                  have hx := ((Ex.refl (fun _ => False) w81).drew).trans hx (fun _ h => h.elim)
                  obtain ⟨v1, s1, e1, y1⟩ := hp 1 (by kernel_rfl)
                  have e1 := e1 39 rfl
                  obtain rfl : v1 = (.pointer (some ⟨gt, 1, none⟩)) := s1
                  clear y1
                  clear hp hb
                  obtain ⟨_, hcells⟩ := HS.out w1 hx
                  refine wantL rfl ⟨Value.pointer (some ⟨gz, 0, none⟩), w1, ?_, Ex.refl _ _, rfl⟩
                  go_simp
                · intro o ho ρ yl w1 hx hc hf hgl hp hb
                  simp only [List.getElem?_toArray, List.getElem?_cons_succ, List.getElem?_cons_zero, Option.some.injEq] at ho
                  subst ho
                  have hx := ((Ex.refl (fun _ => False) w81).drew).trans hx (fun _ h => h.elim)
                  have b2 := hb 2 (by kernel_rfl)
                  clear hp hb
                  obtain ⟨_, hcells⟩ := HS.out w1 hx
                  refine wantL rfl ⟨.agg #[.int .u8 x.f0, .int .i64 x.f1, .string x.f2, .slice A x.f3.length c, .int .i64 x.f4], w1, ?_, Ex.refl _ _, rfl⟩
                  go_simp
                · intro o ho ρ yl w1 hx hc hf hgl hp hb
                  simp only [List.getElem?_toArray, List.getElem?_cons_succ, List.getElem?_cons_zero, Option.some.injEq] at ho
                  subst ho
                  have hx := ((Ex.refl (fun _ => False) w81).drew).trans hx (fun _ h => h.elim)
                  obtain ⟨v2, s2, e2, y2⟩ := hp 2 (by kernel_rfl)
                  have e2 := e2 40 rfl
                  obtain rfl : v2 = (Value.pointer (some ⟨gz, 0, none⟩)) := s2
                  clear y2
                  obtain ⟨v3, s3, e3, y3⟩ := hp 3 (by kernel_rfl)
                  have e3 := e3 41 rfl
                  obtain rfl : v3 = (.agg #[.int .u8 x.f0, .int .i64 x.f1, .string x.f2, .slice A x.f3.length c, .int .i64 x.f4]) := s3
                  clear y3
                  clear hp hb
                  refine wantR rfl ⟨19, #[Value.pointer (some ⟨gz, 0, none⟩), .agg #[.int .u8 x.f0, .int .i64 x.f1, .string x.f2, .slice A x.f3.length c, .int .i64 x.f4]], exec_call' Try.func19 (by kernel_rfl) rfl _ rfl (by simp [e2, e3]) (hf 19), ?_⟩
                  refine (get_nt (Value.pointer (some ⟨gz, 0, none⟩)) _ (HN.out.ex0 (HX8.out.trans hx (fun _ h => h.elim))) x.f0 x.f1 x.f4 x.f2 A x.f3.length c).mono ?_
                  rintro e wq ⟨rfl, hq0⟩
                  exact ⟨_, rfl, hq0, rfl⟩
                · intro o ho ρ yl w1 hx hc hf hgl hp hb
                  simp only [List.getElem?_toArray, List.getElem?_cons_succ, List.getElem?_cons_zero, Option.some.injEq] at ho
                  subst ho
                  have hx := ((Ex.refl (fun _ => False) w81).drew).trans hx (fun _ h => h.elim)
                  obtain ⟨v4, s4, e4, y4⟩ := hp 4 (by kernel_rfl)
                  have e4 := e4 42 rfl
                  obtain rfl : v4 = (.tuple #[.agg #[.int .u8 0, .int .i64 0, .string ⟨#[]⟩, .slice none 0 0, .int .i64 0], .bool false, .int .i64 1]) := s4
                  clear y4
                  clear hp hb
                  refine wantL rfl ⟨.tuple #[.agg #[.int .u8 0, .int .i64 0, .string ⟨#[]⟩, .slice none 0 0, .int .i64 0], .bool false, .int .i64 1], w1, ?_, Ex.refl _ _, rfl⟩
                  go_simp
                · intro o ho ρ yl w1 hx hc hf hgl hp hb
                  simp only [List.getElem?_toArray, List.getElem?_cons_succ, List.getElem?_cons_zero, Option.some.injEq] at ho
                  subst ho
                  have hx := ((Ex.refl (fun _ => False) w81).drew).trans hx (fun _ h => h.elim)
                  obtain ⟨v5, s5, e5, y5⟩ := hp 5 (by kernel_rfl)
                  have e5 := e5 37 rfl
                  obtain rfl : v5 = (.tuple #[.agg #[.int .u8 0, .int .i64 0, .string ⟨#[]⟩, .slice none 0 0, .int .i64 0], .bool false, .int .i64 1]) := s5
                  clear y5
                  clear hp hb
                  refine wantL rfl ⟨.agg #[.int .u8 0, .int .i64 0, .string ⟨#[]⟩, .slice none 0 0, .int .i64 0], w1, ?_, Ex.refl _ _, rfl⟩
                  go_simp
                · exact absurd hnl (by decide)
                · exact absurd hnl (by decide)
                · intro o ho ρ yl w1 hx hc hf hgl hp hb
                  simp only [List.getElem?_toArray, List.getElem?_cons_succ, List.getElem?_cons_zero, Option.some.injEq] at ho
                  subst ho
                  have hx := ((Ex.refl (fun _ => False) w81).drew).trans hx (fun _ h => h.elim)
                  clear hp hb
                  refine wantL rfl ⟨_, _, exec_value (s := Instr.alloc 27 true (.tuple #[])) rfl (alloc27 w1), (Ex.refl _ _).alloc _, ⟨w1.heap.size, rfl, hx.size, blk_new1 _ _⟩⟩
              · intro i hil
                obtain rfl | rfl : i = 7 ∨ i = 8 := by simpa using hil
                · intro o ho ρ yl w1 hx hc hf hgl hp hb
                  simp only [List.getElem?_toArray, List.getElem?_cons_succ, List.getElem?_cons_zero, Option.some.injEq] at ho
                  subst ho
                  have hx := ((Ex.refl (fun _ => False) w81).drew).trans hx (fun _ h => h.elim)
                  obtain ⟨v5, s5, e5, y5⟩ := hp 5 (by kernel_rfl)
                  have e5 := e5 37 rfl
                  obtain rfl : v5 = (.tuple #[.agg #[.int .u8 0, .int .i64 0, .string ⟨#[]⟩, .slice none 0 0, .int .i64 0], .bool false, .int .i64 1]) := s5
                  clear y5
                  clear hp hb
                  refine ⟨.bool false, .inl ⟨rfl, fun w' => ?_⟩, rfl⟩
                  go_simp
                · intro o ho ρ yl w1 hx hc hf hgl hp hb
                  simp only [List.getElem?_toArray, List.getElem?_cons_succ, List.getElem?_cons_zero, Option.some.injEq] at ho
                  subst ho
                  have hx := ((Ex.refl (fun _ => False) w81).drew).trans hx (fun _ h => h.elim)
                  obtain ⟨v5, s5, e5, y5⟩ := hp 5 (by kernel_rfl)
                  have e5 := e5 37 rfl
                  obtain rfl : v5 = (.tuple #[.agg #[.int .u8 0, .int .i64 0, .string ⟨#[]⟩, .slice none 0 0, .int .i64 0], .bool false, .int .i64 1]) := s5
                  clear y5
                  clear hp hb
                  refine ⟨.int .i64 1, .inl ⟨rfl, fun w' => ?_⟩, rfl⟩
                  go_simp
              · intro xs w1 hx hs K hKK
                have s0 : xs 0 = (.int .i64 1) := hs 0 (by omega)
                have s1 : xs 1 = (.pointer (some ⟨gt, 1, none⟩)) := hs 1 (by omega)
                have s2 : xs 2 = (Value.pointer (some ⟨gz, 0, none⟩)) := hs 2 (by omega)
                have s3 : xs 3 = (.agg #[.int .u8 x.f0, .int .i64 x.f1, .string x.f2, .slice A x.f3.length c, .int .i64 x.f4]) := hs 3 (by omega)
                have s4 : xs 4 = (.tuple #[.agg #[.int .u8 0, .int .i64 0, .string ⟨#[]⟩, .slice none 0 0, .int .i64 0], .bool false, .int .i64 1]) := hs 4 (by omega)
                have s5 : xs 5 = (.tuple #[.agg #[.int .u8 0, .int .i64 0, .string ⟨#[]⟩, .slice none 0 0, .int .i64 0], .bool false, .int .i64 1]) := hs 5 (by omega)
                have s6 : xs 6 = (.agg #[.int .u8 0, .int .i64 0, .string ⟨#[]⟩, .slice none 0 0, .int .i64 0]) := hs 6 (by omega)
                have s7 : xs 7 = (.bool false) := hs 7 (by omega)
                have s8 : xs 8 = (.int .i64 1) := hs 8 (by omega)
                have s9 : (At w81.heap.size (.cells #[.int .u8 0, .int .i64 0, .string ⟨#[]⟩, .slice none 0 0, .int .i64 0] 27 (0, 0))) (xs 9) w1 := hs 9 (by omega)
                clear hs
                simp only [putSlots, dstOf, List.getElem?_toArray, List.getElem?_cons_succ, List.getElem?_cons_zero, Option.bind_some, List.setIfInBounds_toArray, List.set_cons_zero, List.set_cons_succ, List.drop_succ_cons, List.drop_zero]
                rw [s0, s1, s2, s3, s4, s5, s6, s7, s8]
                clear s0 s1 s2 s3 s4 s5 s6 s7 s8
                obtain ⟨g11, hg8, hlo, hb8⟩ := s9
                rw [hg8]
                have HB8 := Aside0.mk hb8
                have HLO := Aside0.mk hlo
                have HX1 := Aside0.mk hx
                have q8c0 := (blk_cell hb8 0).trans rfl
                have q8f0 := blk_frozen hb8 0
                have q8c1 := (blk_cell hb8 1).trans rfl
                have q8f1 := blk_frozen hb8 1
                have q8c2 := (blk_cell hb8 2).trans rfl
                have q8f2 := blk_frozen hb8 2
                have q8c3 := (blk_cell hb8 3).trans rfl
                have q8f3 := blk_frozen hb8 3
                have q8c4 := (blk_cell hb8 4).trans rfl
                have q8f4 := blk_frozen hb8 4
                have q8l := lt_of_blk hb8
                clear hg8 hb8 hx hlo HS
                go_wp2_with fail
                go_meet
                exact ⟨g11, rfl, rfl, rfl, ⟨ex_put27 HX1.out (.inr HLO.out) _ _ _ _ _⟩, ⟨put27 HB8.out rfl _ _ _ _ _⟩⟩
            case rest =>
              clear HS
              obtain ⟨g11, rfl, rfl, rfl, HX9, HB11⟩ := hcut
              obtain ⟨w91, rfl⟩ : ∃ w91, w91 = wc := ⟨_, rfl⟩
              have HQ9 := Aside0.mk (HX8.out.trans HX9.out (fun _ h => h.elim))
              have HB8b := Aside0.mk (HX9.out.blk HB8.out (fun h => h))
              have HS : Aside0 (∀ w', Ex (fun _ => False) w91 w' → Ex (fun _ => False) w91 w' ∧ w'.cell? ⟨gt, 0, none⟩ = some ((Value.pointer none)) ∧ w'.cell? ⟨gt, 1, none⟩ = some (.pointer (some ⟨gz, 0, none⟩)) ∧ w'.cell? ⟨gx, 0, none⟩ = some (.int .u8 x.f0) ∧ w'.cell? ⟨gx, 1, none⟩ = some (.int .i64 x.f1) ∧ w'.cell? ⟨gx, 2, none⟩ = some (.string x.f2) ∧ w'.cell? ⟨gx, 3, none⟩ = some (.slice A x.f3.length c) ∧ w'.cell? ⟨gx, 4, none⟩ = some (.int .i64 x.f4) ∧ w'.cell? ⟨gy, 0, none⟩ = some (.int .u8 y.f0) ∧ w'.cell? ⟨gy, 1, none⟩ = some (.int .i64 y.f1) ∧ w'.cell? ⟨gy, 2, none⟩ = some (.string y.f2) ∧ w'.cell? ⟨gy, 3, none⟩ = some (.slice B y.f3.length d) ∧ w'.cell? ⟨gy, 4, none⟩ = some (.int .i64 y.f4)) := ⟨fun w' h => ⟨h, (blk_cell ((HQ9.out.trans h (fun _ h => h.elim)).blk HBT.out (fun h => h)) 0).trans rfl, (blk_cell ((HQ9.out.trans h (fun _ h => h.elim)).blk HBT.out (fun h => h)) 1).trans rfl, (blk_cell ((HQ9.out.trans h (fun _ h => h.elim)).blk HBX.out (fun h => h)) 0).trans rfl, (blk_cell ((HQ9.out.trans h (fun _ h => h.elim)).blk HBX.out (fun h => h)) 1).trans rfl, (blk_cell ((HQ9.out.trans h (fun _ h => h.elim)).blk HBX.out (fun h => h)) 2).trans rfl, (blk_cell ((HQ9.out.trans h (fun _ h => h.elim)).blk HBX.out (fun h => h)) 3).trans rfl, (blk_cell ((HQ9.out.trans h (fun _ h => h.elim)).blk HBX.out (fun h => h)) 4).trans rfl, (blk_cell ((HQ9.out.trans h (fun _ h => h.elim)).blk HBY.out (fun h => h)) 0).trans rfl, (blk_cell ((HQ9.out.trans h (fun _ h => h.elim)).blk HBY.out (fun h => h)) 1).trans rfl, (blk_cell ((HQ9.out.trans h (fun _ h => h.elim)).blk HBY.out (fun h => h)) 2).trans rfl, (blk_cell ((HQ9.out.trans h (fun _ h => h.elim)).blk HBY.out (fun h => h)) 3).trans rfl, (blk_cell ((HQ9.out.trans h (fun _ h => h.elim)).blk HBY.out (fun h => h)) 4).trans rfl⟩⟩
              go_upto_region 10 with (fail)
              go_cut [14, 15] from 46 to 53 (fun s14 s15 wx => s14 = .bool false ∧ s15 = .int .i64 1 ∧ Aside0 (Ex (fun _ => False) w91 wx))
              case first =>
                refine region_by 8 [7] (specL [Is (.int .i64 1), Is (.pointer (some ⟨gt, 1, none⟩)), Is (Value.pointer (some ⟨gz, 0, none⟩)), Is (.agg #[.int .u8 x.f0, .int .i64 x.f1, .string x.f2, .slice A x.f3.length c, .int .i64 x.f4]), Is (.tuple #[.bool false, .int .i64 1]), Is (.tuple #[.bool false, .int .i64 1]), Is (.bool false), Is (.int .i64 1)]) (by kernel_rfl) (by kernel_rfl) (stab_all (stab_cons (stab_is _) (stab_cons (stab_is _) (stab_cons (stab_is _) (stab_cons (stab_is _) (stab_cons (stab_is _) (stab_cons (stab_is _) (stab_cons (stab_is _) (stab_cons (stab_is _) (stab_nil)))))))))) ?_ ?_ ?_
                · intro i hi hnl
                  obtain rfl | rfl | rfl | rfl | rfl | rfl | rfl | rfl : i = 0 ∨ i = 1 ∨ i = 2 ∨ i = 3 ∨ i = 4 ∨ i = 5 ∨ i = 6 ∨ i = 7 := by omega
                  · intro o ho ρ yl w1 hx hc hf hgl hp hb
                    simp only [List.getElem?_toArray, List.getElem?_cons_succ, List.getElem?_cons_zero, Option.some.injEq] at ho
                    subst ho
                    have hx := ((Ex.refl (fun _ => False) w91).drew).trans hx (fun _ h => h.elim)
                    have b7 := hb 7 (by kernel_rfl)
                    clear hp hb
                    refine wantL rfl ⟨.int .i64 1, w1, ?_, Ex.refl _ _, rfl⟩
                    go_simp
                  · intro o ho ρ yl w1 hx hc hf hgl hp hb
                    simp only [List.getElem?_toArray, List.getElem?_cons_succ, List.getElem?_cons_zero, Option.some.injEq] at ho
                    subst ho
                    have hx := ((Ex.refl (fun _ => False) w91).drew).trans hx (fun _ h => h.elim)
                    obtain ⟨v0, s0, e0, y0⟩ := hp 0 (by kernel_rfl)
                    have e0 := e0 47 rfl
                    obtain rfl : v0 = (.int .i64 1) := s0
                    clear y0
                    have b6 := hb 6 (by kernel_rfl)
                    clear hp hb
                    refine wantL rfl ⟨.pointer (some ⟨gt, 1, none⟩), w1, ?_, Ex.refl _ _, rfl⟩
                    go_simp
                  · intro o ho ρ yl w1 hx hc hf hgl hp hb
                    simp only [List.getElem?_toArray, List.getElem?_cons_succ, List.getElem?_cons_zero, Option.some.injEq] at ho
                    subst ho
                    have hx := ((Ex.refl (fun _ => False) w91).drew).trans hx (fun _ h => h.elim)
                    obtain ⟨v1, s1, e1, y1⟩ := hp 1 (by kernel_rfl)
                    have e1 := e1 48 rfl
                    obtain rfl : v1 = (.pointer (some ⟨gt, 1, none⟩)) := s1
                    clear y1
                    clear hp hb
                    obtain ⟨_, hcells⟩ := HS.out w1 hx
                    refine wantL rfl ⟨Value.pointer (some ⟨gz, 0, none⟩), w1, ?_, Ex.refl _ _, rfl⟩
                    go_simp
                  · intro o ho ρ yl w1 hx hc hf hgl hp hb
                    simp only [List.getElem?_toArray, List.getElem?_cons_succ, List.getElem?_cons_zero, Option.some.injEq] at ho
                    subst ho
                    have hx := ((Ex.refl (fun _ => False) w91).drew).trans hx (fun _ h => h.elim)
                    have b2 := hb 2 (by kernel_rfl)
                    clear hp hb
                    obtain ⟨_, hcells⟩ := HS.out w1 hx
                    refine wantL rfl ⟨.agg #[.int .u8 x.f0, .int .i64 x.f1, .string x.f2, .slice A x.f3.length c, .int .i64 x.f4], w1, ?_, Ex.refl _ _, rfl⟩
                    go_simp
                  · intro o ho ρ yl w1 hx hc hf hgl hp hb
                    simp only [List.getElem?_toArray, List.getElem?_cons_succ, List.getElem?_cons_zero, Option.some.injEq] at ho
                    subst ho
                    have hx := ((Ex.refl (fun _ => False) w91).drew).trans hx (fun _ h => h.elim)
                    obtain ⟨v2, s2, e2, y2⟩ := hp 2 (by kernel_rfl)
                    have e2 := e2 49 rfl
                    obtain rfl : v2 = (Value.pointer (some ⟨gz, 0, none⟩)) := s2
                    clear y2
                    obtain ⟨v3, s3, e3, y3⟩ := hp 3 (by kernel_rfl)
                    have e3 := e3 50 rfl
                    obtain rfl : v3 = (.agg #[.int .u8 x.f0, .int .i64 x.f1, .string x.f2, .slice A x.f3.length c, .int .i64 x.f4]) := s3
                    clear y3
                    clear hp hb
                    refine wantR rfl ⟨24, #[Value.pointer (some ⟨gz, 0, none⟩), .agg #[.int .u8 x.f0, .int .i64 x.f1, .string x.f2, .slice A x.f3.length c, .int .i64 x.f4]], exec_call' Try.func24 (by kernel_rfl) rfl _ rfl (by simp [e2, e3]) (hf 24), ?_⟩
                    refine (drop_nt (Value.pointer (some ⟨gz, 0, none⟩)) _ (HN.out.ex0 (HQ9.out.trans hx (fun _ h => h.elim))) x.f0 x.f1 x.f4 x.f2 A x.f3.length c).mono ?_
                    rintro e wq ⟨rfl, hq0⟩
                    exact ⟨_, rfl, hq0, rfl⟩
                  · intro o ho ρ yl w1 hx hc hf hgl hp hb
                    simp only [List.getElem?_toArray, List.getElem?_cons_succ, List.getElem?_cons_zero, Option.some.injEq] at ho
                    subst ho
                    have hx := ((Ex.refl (fun _ => False) w91).drew).trans hx (fun _ h => h.elim)
                    obtain ⟨v4, s4, e4, y4⟩ := hp 4 (by kernel_rfl)
                    have e4 := e4 51 rfl
                    obtain rfl : v4 = (.tuple #[.bool false, .int .i64 1]) := s4
                    clear y4
                    clear hp hb
                    refine wantL rfl ⟨.tuple #[.bool false, .int .i64 1], w1, ?_, Ex.refl _ _, rfl⟩
                    go_simp
                  · intro o ho ρ yl w1 hx hc hf hgl hp hb
                    simp only [List.getElem?_toArray, List.getElem?_cons_succ, List.getElem?_cons_zero, Option.some.injEq] at ho
                    subst ho
                    have hx := ((Ex.refl (fun _ => False) w91).drew).trans hx (fun _ h => h.elim)
                    obtain ⟨v5, s5, e5, y5⟩ := hp 5 (by kernel_rfl)
                    have e5 := e5 46 rfl
                    obtain rfl : v5 = (.tuple #[.bool false, .int .i64 1]) := s5
                    clear y5
                    clear hp hb
                    refine wantL rfl ⟨.bool false, w1, ?_, Ex.refl _ _, rfl⟩
                    go_simp
                  · exact absurd hnl (by decide)
                · intro i hil
                  obtain rfl : i = 7 := by simpa using hil
                  · intro o ho ρ yl w1 hx hc hf hgl hp hb
                    simp only [List.getElem?_toArray, List.getElem?_cons_succ, List.getElem?_cons_zero, Option.some.injEq] at ho
                    subst ho
                    have hx := ((Ex.refl (fun _ => False) w91).drew).trans hx (fun _ h => h.elim)
                    obtain ⟨v5, s5, e5, y5⟩ := hp 5 (by kernel_rfl)
                    have e5 := e5 46 rfl
                    obtain rfl : v5 = (.tuple #[.bool false, .int .i64 1]) := s5
                    clear y5
                    clear hp hb
                    refine ⟨.int .i64 1, .inl ⟨rfl, fun w' => ?_⟩, rfl⟩
                    go_simp
                · intro xs w1 hx hs K hKK
                  have s0 : xs 0 = (.int .i64 1) := hs 0 (by omega)
                  have s1 : xs 1 = (.pointer (some ⟨gt, 1, none⟩)) := hs 1 (by omega)
                  have s2 : xs 2 = (Value.pointer (some ⟨gz, 0, none⟩)) := hs 2 (by omega)
                  have s3 : xs 3 = (.agg #[.int .u8 x.f0, .int .i64 x.f1, .string x.f2, .slice A x.f3.length c, .int .i64 x.f4]) := hs 3 (by omega)
                  have s4 : xs 4 = (.tuple #[.bool false, .int .i64 1]) := hs 4 (by omega)
                  have s5 : xs 5 = (.tuple #[.bool false, .int .i64 1]) := hs 5 (by omega)
                  have s6 : xs 6 = (.bool false) := hs 6 (by omega)
                  have s7 : xs 7 = (.int .i64 1) := hs 7 (by omega)
                  clear hs
                  simp only [putSlots, dstOf, List.getElem?_toArray, List.getElem?_cons_succ, List.getElem?_cons_zero, Option.bind_some, List.setIfInBounds_toArray, List.set_cons_zero, List.set_cons_succ, List.drop_succ_cons, List.drop_zero]
                  rw [s0, s1, s2, s3, s4, s5, s6, s7]
                  clear s0 s1 s2 s3 s4 s5 s6 s7
                  have HX1 := Aside0.mk hx
                  clear hx HS
                  go_wp2_with fail
                  go_meet
                  exact ⟨rfl, rfl, HX1⟩
              case rest =>
                clear HS
                obtain ⟨rfl, rfl, HXA⟩ := hcut
                obtain ⟨wa1, rfl⟩ : ∃ wa1, wa1 = wc := ⟨_, rfl⟩
                have HQA := Aside0.mk (HQ9.out.trans HXA.out (fun _ h => h.elim))
                have HB8c := Aside0.mk (HXA.out.blk HB8b.out (fun h => h))
                have HB11c := Aside0.mk (HXA.out.blk HB11.out (fun h => h))
                have t0 := (blk_cell (HQA.out.blk HBT.out (fun h => h)) 0).trans rfl
                have t1 := (blk_cell (HQA.out.blk HBT.out (fun h => h)) 1).trans rfl
                have tl := lt_of_blk (HQA.out.blk HBT.out (fun h => h))
                go_wp2_with fail
                refine (all_calls (Value.pointer (some ⟨gz, 0, none⟩)) _ rfl).mono ?_
                rintro e wq ⟨rfl, rfl⟩
                have q8c0 := (blk_cell HB8c.out 0).trans rfl
                have q8f0 := blk_frozen HB8c.out 0
                have q8c1 := (blk_cell HB8c.out 1).trans rfl
                have q8f1 := blk_frozen HB8c.out 1
                have q8c2 := (blk_cell HB8c.out 2).trans rfl
                have q8f2 := blk_frozen HB8c.out 2
                have q8c3 := (blk_cell HB8c.out 3).trans rfl
                have q8f3 := blk_frozen HB8c.out 3
                have q8c4 := (blk_cell HB8c.out 4).trans rfl
                have q8f4 := blk_frozen HB8c.out 4
                have q8l := lt_of_blk HB8c.out
                have q11c0 := (blk_cell HB11c.out 0).trans rfl
                have q11f0 := blk_frozen HB11c.out 0
                have q11c1 := (blk_cell HB11c.out 1).trans rfl
                have q11f1 := blk_frozen HB11c.out 1
                have q11c2 := (blk_cell HB11c.out 2).trans rfl
                have q11f2 := blk_frozen HB11c.out 2
                have q11c3 := (blk_cell HB11c.out 3).trans rfl
                have q11f3 := blk_frozen HB11c.out 3
                have q11c4 := (blk_cell HB11c.out 4).trans rfl
                have q11f4 := blk_frozen HB11c.out 4
                have q11l := lt_of_blk HB11c.out
                have hfq : ∀ (p : Value) (w : World), (binOp .eql 68 (.func (.func 48) #[] #[p]) .nilFunc).run Try.prog w = .ok (.bool false) w := fun p w => by kernel_rfl
                go_wp2_with fail
                refine (same_zero _).mono ?_
                rintro e wb1 ⟨rfl, hb1⟩
                obtain ⟨rc1, rf1⟩ := (Ex.of_below (S := fun _ => False) hb1).cells
                have HE1 := Aside0.mk (Ex.of_below (S := fun _ => False) hb1)
                clear hb1
                go_wp2_with fail
                refine (same_zero _).mono ?_
                rintro e wb2 ⟨rfl, hb2⟩
                have HE2 := Aside0.mk (HE1.out.then_below hb2)
                clear rc1 rf1 hb2
                obtain ⟨rc1, rf1⟩ := HE2.out.cells
                go_wp2_with fail
                refine (len_nt (Value.pointer (some ⟨gz, 0, none⟩)) _ (HN.out.ex0 ((HQA.out.alloc _).trans HE2.out (fun _ h => h.elim)))).mono ?_
                rintro e wb3 ⟨rfl, rfl⟩
                go_wp2_with fail
                refine (copy_nt (Value.pointer (some ⟨gz, 0, none⟩)) _ (HN.out.ex0 ((HQA.out.alloc _).trans HE2.out (fun _ h => h.elim)))).mono ?_
                rintro e wb4 ⟨rfl, rfl⟩
                go_wp2_with fail
                have HBC := Aside0.mk (HE2.out.blk (blk_new1 _ _) (fun h => h))
                have HNC := Aside0.mk (HN.out.ex0 ((HQA.out.alloc _).trans HE2.out (fun _ h => h.elim)))
                have HQE := Aside0.mk ((HQA.out.alloc (.cells #[Value.pointer (some ⟨gz, 0, none⟩)] 39)).trans HE2.out (fun _ h => h.elim))
                clear rc1 rf1 t0 t1 tl hfq q8c0 q8c1 q8c2 q8c3 q8c4 q8f0 q8f1 q8f2 q8f3 q8f4 q11c0 q11c1 q11c2 q11c3 q11c4 q11f0 q11f1 q11f2 q11f3 q11f4 q8l q11l
                refine wp_range_none (gf := 48) (lb := #[.pointer (some ⟨wa1.heap.size, 0, none⟩)]) rfl (fun args w => enters_ Try.func48 (by kernel_rfl) rfl args w) ?_ ?_
                · intro l W hW
                  exact iter_nt _ _ _ W (HNC.out.ex0 (Ex.of_below hW)) ((Ex.of_below (S := fun _ => False) hW).blk HBC.out (fun h => h))
                · intro D1 W1 hD1 hW1 hK1
                  have HD1 := Aside0.mk hK1
                  have HY1 := Aside0.mk (HQE.out.then_below hW1)
                  have HLE := Aside0.mk (Nat.le_trans HQE.out.size hD1)
                  have HLD1 := Aside0.mk (Nat.le_trans (HX2.out.trans HQE.out (fun _ h => h.elim)).size hD1)
                  clear hD1 hW1 hK1 HX8 HX9 HXA HQ9 HQA HE1 HE2 HB8 HB11 HB8b HB8c HB11c HBC HNC HQE
                  go_wp2_with fail
                  have HLT := Aside0.mk (Nat.lt_of_lt_of_le HL0.out HLE.out)
                  rw [rounds_succ]
                  go_wp2_with fail
                  refine (lives_calls _).mono ?_
                  rintro e w9 ⟨rfl, hx9⟩
                  have HBR3 := Aside0.mk (hx9.blk (HY1.out.blk HBR2.out (fun h => h)) (fun h => h))
                  have HD0b := Aside0.mk (hx9.blk (HY1.out.blk HD0.out (fun h => h)) (fun h => h))
                  have HD1b := Aside0.mk (hx9.blk HD1.out (fun h => h))
                  have HXE := Aside0.mk ((HX2.out.trans HY1.out (fun _ h => h.elim)).trans hx9 (fun _ h => h.elim))
                  have qr := (blk_cell HBR3.out 0).trans rfl
                  have qf := blk_frozen HBR3.out 0
                  have ql := lt_of_blk HBR3.out
                  clear hx9
                  go_wp2_with fail
                  have HE0 := Aside0.mk (show (w9.setCell ⟨gr, 0, none⟩ (.bool true)).heap[D0]? = some (.deferred (some [])) from (Below.heap_setCell w9 ⟨gr, 0, none⟩ (.bool true) D0 (ne_of_blk HD0b.out HBR3.out (by simp))).trans HD0b.out)
                  have HE1 := Aside0.mk (show (w9.setCell ⟨gr, 0, none⟩ (.bool true)).heap[D1]? = some (.deferred (some [])) from (Below.heap_setCell w9 ⟨gr, 0, none⟩ (.bool true) D1 (ne_of_blk HD1b.out HBR3.out (by simp))).trans HD1b.out)
                  have hne : D0 ≠ D1 := by intro e; have h1 := HLT.out; omega
                  refine ⟨by simp, .inl ⟨D1, _, rfl, run_takeDeferred HE1.out, ?_⟩⟩
                  refine ⟨by simp, .inl ⟨D0, _, rfl, run_takeDeferred (putObj_far HE0.out hne _), ?_⟩⟩
                  refine ⟨.bool true, results_cellv rfl _ _ gr true (0, 0) rfl (putObj_far (putObj_far (blk_put HBR3.out 0 _ rfl) (ne_of_blk HBR3.out HD1b.out (by simp)) _) (ne_of_blk HBR3.out HD0b.out (by simp)) _), rfl, ?_⟩
                  exact ex_putObj (ex_putObj (HXE.out.set (p := ⟨gr, 0, none⟩) (.inr (by have := HGR.out; omega)) _) (.inr HLD1.out) _) (.inr HLD0.out) _
end Go.Proofs.Ythkemcekcfccpaa.PBrandCompares

namespace Go.Proofs.Ythkemcekcfccpaa.PBrandCompares
open Go.RowKit Go.Proofs.YthkemcekcfccpaaW.PrintWords Go.Proofs.YthkemcekcfccpaaW.PrintLast Go.Proofs.YthkemcekcfccpaaW.PrintMore
open Go.Proofs.Ythkemcekcfccpaa.GBrandCompares
set_option linter.unusedVariables false
set_option linter.unusedSimpArgs false

theorem S27.ind {p : S27 → Prop} (h : ∀ x : S27, (∀ y ∈ x.f3, p y) → p x) : ∀ x, p x := by
  have key : ∀ (n : Nat) (x : S27), SizeOf.sizeOf x ≤ n → p x := by
    intro n
    induction n with
    | zero => intro x hx; cases x; simp at hx
    | succ n ih =>
      intro x hx
      refine h x fun y hy => ih y ?_
      have hs := List.sizeOf_lt_of_mem hy
      cases x
      simp at hx hs ⊢
      omega
  exact fun x => key _ x (Nat.le_refl _)

mutual
def nodes : S27 → Nat
  | ⟨_, _, _, l, _⟩ => nodesL l + 1
def nodesL : List S27 → Nat
  | [] => 0
  | x :: l => nodes x + nodesL l
end
mutual
def nest : S27 → Nat
  | ⟨k, _, _, l, _⟩ => if k = 3 then nestL l + 1 else 0
def nestL : List S27 → Nat
  | [] => 0
  | x :: l => max (nest x) (nestL l)
end
/-- the fields that a kind does not name are zero, the named one is in its bounds -/
def Field (x : S27) : Prop :=
  x.f0 = 0 ∧ x.f1 = 0 ∧ x.f2.size = 0 ∧ x.f3.length = 0 ∧ x.f4 = 0 ∨ x.f0 = 1 ∧ x.f2.size = 0 ∧ x.f3.length = 0 ∧ x.f4 = 0 ∨
  x.f0 = 2 ∧ x.f1 = 0 ∧ x.f2.size ≤ 256 ∧ x.f3.length = 0 ∧ x.f4 = 0 ∨ x.f0 = 3 ∧ x.f1 = 0 ∧ x.f2.size = 0 ∧ x.f4 = 0 ∨ x.f0 = 4 ∧ x.f1 = 0 ∧ x.f2.size = 0 ∧ x.f3.length = 0 ∧ 1 ≤ x.f4
inductive Fields : S27 → Prop
  | mk {x : S27} : Field x → (∀ y ∈ x.f3, Fields y) → Fields x
theorem Fields.now {x : S27} (h : Fields x) : Field x := by cases h; assumption
theorem Fields.sub {x y : S27} (h : Fields x) (hy : y ∈ x.f3) : Fields y := by cases h with | mk _ h => exact h y hy

theorem nodes_eq (x : S27) : nodes x = nodesL x.f3 + 1 := by cases x; rfl
theorem nodes_pos (x : S27) : 1 ≤ nodes x := by rw [nodes_eq]; omega
theorem nest_list {x : S27} (h : x.f0 = 3) : nest x = nestL x.f3 + 1 := by cases x; simp only at h; simp [nest, h]
theorem nest_plain {x : S27} (h : x.f0 ≠ 3) : nest x = 0 := by cases x; simp only at h; simp [nest, h]
theorem nodesL_len (l : List S27) : l.length ≤ nodesL l := by
  induction l with
  | nil => simp
  | cons x l ih => have := nodes_pos x; simp only [List.length_cons, nodesL]; omega
theorem nestL_le {l : List S27} {d : Nat} : nestL l ≤ d ↔ ∀ y ∈ l, nest y ≤ d := by
  induction l with
  | nil => simp [nestL]
  | cons x l ih => simp only [nestL, Nat.max_le, ih, List.mem_cons, forall_eq_or_imp]
theorem nodesL_mem {l : List S27} {y : S27} (h : y ∈ l) : nodes y ≤ nodesL l := by
  induction l with
  | nil => simp at h
  | cons x l ih =>
    simp only [nodesL]
    rcases List.mem_cons.1 h with rfl | h
    · omega
    · have := ih h; omega

/-- what 'take' says -/
def Takes (x : S27) (p d : Int) : Prop := (nodes x : Int) ≤ p ∧ (nest x : Int) ≤ d ∧ Fields x
def TakesL (l : List S27) (p d : Int) : Prop := (nodesL l : Int) ≤ p ∧ (nestL l : Int) ≤ d ∧ ∀ y ∈ l, Fields y

theorem take_iff (n : Nat) : (∀ x : S27, SizeOf.sizeOf x ≤ n → ∀ p d, 0 ≤ p → 0 ≤ d → ((takeV x p d).1 = true ↔ Takes x p d) ∧ ((takeV x p d).1 = true → (takeV x p d).2.1 = p - nodes x)) ∧
    (∀ l : List S27, SizeOf.sizeOf l ≤ n → ∀ p d, 0 ≤ p → 0 ≤ d → ((takeL l p d).1 = true ↔ TakesL l p d) ∧ ((takeL l p d).1 = true → (takeL l p d).2.1 = p - nodesL l)) := by
  induction n with
  | zero =>
    refine ⟨fun x hx => ?_, fun l hl => ?_⟩
    · cases x; simp at hx
    · cases l <;> simp at hl
  | succ n ih =>
    refine ⟨fun x hx p d hp hd => ?_, fun l hl p d hp hd => ?_⟩
    · have hpos := nodes_pos x
      by_cases hz : p = 0
      · rw [takeV_z hz]
        refine ⟨⟨fun h => by simp at h, fun h => by have := h.1; omega⟩, fun h => by simp at h⟩
      have hleaf : ∀ b : Bool, x.f0 ≠ 3 → (b = true ↔ Field x) → (b = true → x.f3.length = 0) → ((b = true ↔ Takes x p d) ∧ (b = true → p - 1 = p - (nodes x : Int))) := by
        intro b h3 hb hl0
        have hn : x.f3.length = 0 → nodes x = 1 := by
          intro h
          rw [nodes_eq, List.length_eq_zero_iff.1 h]; rfl
        refine ⟨⟨fun h => ?_, fun h => hb.2 h.2.2.now⟩, fun h => by rw [hn (hl0 h)]; rfl⟩
        refine ⟨by rw [hn (hl0 h)]; omega, by rw [nest_plain h3]; omega, .mk (hb.1 h) ?_⟩
        intro y hy
        rw [List.length_eq_zero_iff.1 (hl0 h)] at hy
        simp at hy
      by_cases h0 : x.f0 = 0
      · rw [takeV_0 hz h0]
        refine hleaf _ (by omega) ?_ ?_
        · simp only [decide_eq_true_eq]; unfold Field; omega
        · simp only [decide_eq_true_eq]; omega
      by_cases h1 : x.f0 = 1
      · rw [takeV_1 hz h1]
        refine hleaf _ (by omega) ?_ ?_
        · simp only [decide_eq_true_eq]; unfold Field; omega
        · simp only [decide_eq_true_eq]; omega
      by_cases h2 : x.f0 = 2
      · rw [takeV_2 hz h2]
        split
        · refine hleaf _ (by omega) ?_ (fun h => by simp at h)
          refine ⟨fun h => by simp at h, fun h => ?_⟩
          unfold Field at h; omega
        · refine hleaf _ (by omega) ?_ ?_
          · simp only [decide_eq_true_eq]; unfold Field; omega
          · simp only [decide_eq_true_eq]; omega
      by_cases h4 : x.f0 = 4
      · rw [takeV_4 hz h4]
        split
        · refine hleaf _ (by omega) ?_ (fun h => by simp at h)
          refine ⟨fun h => by simp at h, fun h => ?_⟩
          unfold Field at h; omega
        · refine hleaf _ (by omega) ?_ ?_
          · simp only [decide_eq_true_eq]; unfold Field; omega
          · simp only [decide_eq_true_eq]; omega
      by_cases h3 : x.f0 = 3
      · rw [takeV_3 hz h3]
        have hne := nest_list h3
        have hno := nodes_eq x
        have hll := nodesL_len x.f3
        split
        · rename_i h
          refine ⟨⟨fun h => by simp at h, fun ht => ?_⟩, fun h => by simp at h⟩
          have h1 := ht.1
          have h2 := ht.2.1
          rcases h with h | h <;> omega
        · rename_i h
          have hs : SizeOf.sizeOf x.f3 ≤ n := by cases x; simp at hx ⊢; omega
          have h := ih.2 x.f3 hs (p - 1) (d - 1) (by omega) (by omega)
          generalize takeL x.f3 (p - 1) (d - 1) = t at h
          obtain ⟨b, p', d'⟩ := t
          dsimp only at h
          cases b
          · refine ⟨⟨fun h => by simp at h, fun ht => ?_⟩, fun h => by simp at h⟩
            have := h.1.2 ⟨by have := ht.1; omega, by have := ht.2.1; omega, fun y hy => ht.2.2.sub hy⟩
            simp at this
          · have ht := h.1.1 rfl
            have hp' := h.2 rfl
            dsimp only
            refine ⟨⟨fun hf => ⟨by have := ht.1; omega, by have := ht.2.1; omega, .mk ?_ ht.2.2⟩, fun hT => ?_⟩, fun _ => by omega⟩
            · simp only [decide_eq_true_eq] at hf; unfold Field; omega
            · have := hT.2.2.now
              simp only [decide_eq_true_eq]; unfold Field at this; omega
      · rw [takeV_5 hz h0 h1 h2 h4 h3]
        refine hleaf _ h3 ⟨fun h => by simp at h, fun h => ?_⟩ (fun h => by simp at h)
        unfold Field at h; omega
    · cases l with
      | nil => simp [takeL, TakesL, nodesL, nestL, hp, hd]
      | cons x l =>
        have hx : SizeOf.sizeOf x ≤ n := by simp at hl; omega
        have hl : SizeOf.sizeOf l ≤ n := by simp at hl; omega
        unfold takeL
        have hb := takeV_bounds x hp hd
        have h1 := ih.1 x hx p d hp hd
        generalize takeV x p d = t at hb h1
        obtain ⟨b, p', d'⟩ := t
        dsimp only at hb h1
        cases b
        · refine ⟨⟨fun h => by simp at h, fun ht => ?_⟩, fun h => by simp at h⟩
          have := h1.1.2 ⟨by have := ht.1; simp only [nodesL] at this; omega, by have := ht.2.1; simp only [nestL] at this; omega, ht.2.2 x (.head _)⟩
          simp at this
        · have h5 := hb.2.2.2.2 rfl
          subst h5
          have h2 := ih.2 l hl p' d' hb.1 hb.2.2.1
          have hq := h1.2 rfl
          have ht1 := h1.1.1 rfl
          dsimp only
          refine ⟨⟨fun h => ?_, fun ht => h2.1.2 ⟨by have := ht.1; simp only [nodesL] at this; omega, by have := ht.2.1; simp only [nestL] at this; omega, fun y hy => ht.2.2 y (.tail _ hy)⟩⟩, fun h => ?_⟩
          · have ht2 := h2.1.1 h
            refine ⟨by have := ht2.1; have := ht1.1; simp only [nodesL]; omega, by have := ht2.2.1; have := ht1.2.1; simp only [nestL]; omega, fun y hy => ?_⟩
            rcases List.mem_cons.1 hy with rfl | hy
            · exact ht1.2.2
            · exact ht2.2.2 y hy
          · have := h2.2 h; simp only [nodesL]; omega

theorem may_iff (x : S27) : mayV x = true ↔ nodes x ≤ 512 ∧ nest x ≤ 16 ∧ Fields x := by
  have h := (take_iff _).1 x (Nat.le_refl _) 512 16 (by omega) (by omega)
  have hpos := nodes_pos x
  simp only [mayV, measureV, decide_eq_true_eq]
  split
  · rename_i ht
    have h2 := h.2 ht
    have h1 := h.1.1 ht
    have := h1.1
    have := h1.2.1
    refine ⟨fun _ => ⟨by omega, by omega, h1.2.2⟩, fun _ => ?_⟩
    rw [decide_eq_true_eq]; omega
  · rename_i ht
    refine ⟨fun h => by rw [decide_eq_true_eq] at h; omega, fun hm => absurd (h.1.2 ⟨by have := hm.1; omega, by have := hm.2.1; omega, hm.2.2⟩) ht⟩

/-- well formed: what is read from memory is -/
inductive Wf : S27 → Prop
  | mk {x : S27} : 0 ≤ x.f0 → x.f0 < 256 → x.f3.length ≤ 9223372036854775807 → (∀ y ∈ x.f3, Wf y) → Wf x
theorem Wf.lo {x : S27} (h : Wf x) : 0 ≤ x.f0 := by cases h; assumption
theorem Wf.hi {x : S27} (h : Wf x) : x.f0 < 256 := by cases h; assumption
theorem Wf.len {x : S27} (h : Wf x) : x.f3.length ≤ 9223372036854775807 := by cases h; assumption
theorem Wf.sub {x y : S27} (h : Wf x) (hy : y ∈ x.f3) : Wf y := by cases h with | mk _ _ _ h => exact h y hy
theorem Wf.rd {x : S27} (h : Wf x) {i : Nat} (hi : i < x.f3.length) : Wf (rd_T27 x.f3 i) := h.sub (rd_mem hi)
theorem wf_may {x : S27} : Fields x → nodes x ≤ 512 → Wf x := by
  induction x using S27.ind with
  | h x ih =>
    intro hf hn
    have h := hf.now
    have hl := nodesL_len x.f3
    rw [nodes_eq] at hn
    refine .mk (by unfold Field at h; omega) (by unfold Field at h; omega) (by omega) fun y hy => ih y hy (hf.sub hy) ?_
    have := nodesL_mem hy
    omega

end Go.Proofs.Ythkemcekcfccpaa.PBrandCompares
