/-
  The row of the law BrandCompares: whatever two values it is given, it answers true, and they read as before. No condition.
  The law BrandCompares, walked.
-/
import Derived.Test.YthkemcekcfccpaaBrandComparesR2M4
import Derived.StillTailTactics
import Derived.Laws.Tables
import Derived.Test.YthkemcekcfccpaaRows
import Derived.WalkKit
import Derived.ProofKit
import Derived.OpenShut
import Derived.ShutString
import Derived.ChangeOld
import Derived.Below
import Derived.SizedLaws
import Derived.Carry
namespace Go.Proofs.Ythkemcekcfccpaa.PBrandCompares
open Go.RowKit Go.Proofs.YthkemcekcfccpaaW.PrintWords Go.Proofs.YthkemcekcfccpaaW.PrintLast Go.Proofs.YthkemcekcfccpaaW.PrintMore
open Go.Proofs.Ythkemcekcfccpaa.GBrandCompares
set_option linter.unusedVariables false
set_option linter.unusedSimpArgs false

def cellsV (x : S27) (A : Option Addr) (c : Nat) : Array Value := #[.int .u8 x.f0, .int .i64 x.f1, .string x.f2, .slice A x.f3.length c, .int .i64 x.f4]
def pairV (x y : S27) (A B : Option Addr) (c d : Nat) : Array Value := #[.int .u8 x.f0, .int .i64 x.f1, .string x.f2, .slice A x.f3.length c, .int .i64 x.f4, .int .u8 y.f0, .int .i64 y.f1, .string y.f2, .slice B y.f3.length d, .int .i64 y.f4]
theorem built28 (x y : S27) (A B : Option Addr) (c d : Nat) (w : World) : (Instr.build 28 #[(0, .agg (cellsV x A c)), (1, .agg (cellsV y B d))]).run Try.prog w = .ok (.agg (pairV x y A B c d)) w :=
  run_build w 28 _ _ (by kernel_rfl)
def zero29 : Array Value := pairV z27 z27 none none 0 0 ++ pairV z27 z27 none none 0 0 ++ pairV z27 z27 none none 0 0
def tripleV (x y : S27) (A B : Option Addr) (c d : Nat) : Array Value := pairV x y A B c d ++ pairV y x B A d c ++ pairV x x A A c c
theorem built29 (x y : S27) (A B : Option Addr) (c d : Nat) (w : World) :
    (Instr.build 29 #[(0, .agg (pairV x y A B c d)), (1, .agg (pairV y x B A d c)), (2, .agg (pairV x x A A c c))]).run Try.prog w = .ok (.agg (tripleV x y A B c d)) w :=
  run_build w 29 _ _ (by kernel_rfl)
theorem size29 (x y : S27) (A B : Option Addr) (c d : Nat) : (Try.prog.info? 29).map (·.size) = some (tripleV x y A B c d).size := by kernel_rfl
theorem zeros29 (x y : S27) (A B : Option Addr) (c d : Nat) : zero29.size = (tripleV x y A B c d).size := by kernel_rfl
theorem one29 (x y : S27) (A B : Option Addr) (c d : Nat) : (tripleV x y A B c d).all (·.oneCell') = true := by kernel_rfl
theorem triple_lit (x y : S27) (A B : Option Addr) (c d : Nat) : tripleV x y A B c d = #[.int .u8 x.f0, .int .i64 x.f1, .string x.f2, .slice A x.f3.length c, .int .i64 x.f4, .int .u8 y.f0, .int .i64 y.f1, .string y.f2, .slice B y.f3.length d, .int .i64 y.f4, .int .u8 y.f0, .int .i64 y.f1, .string y.f2, .slice B y.f3.length d, .int .i64 y.f4, .int .u8 x.f0, .int .i64 x.f1, .string x.f2, .slice A x.f3.length c, .int .i64 x.f4, .int .u8 x.f0, .int .i64 x.f1, .string x.f2, .slice A x.f3.length c, .int .i64 x.f4, .int .u8 x.f0, .int .i64 x.f1, .string x.f2, .slice A x.f3.length c, .int .i64 x.f4] := by kernel_rfl
theorem alloc29 (w : World) : (Instr.alloc 29 true (.tuple #[])).run Try.prog w = .ok (.pointer (some ⟨w.heap.size, 0, none⟩)) (w.alloc (.cells zero29 29)) := by kernel_rfl
theorem sizeV (x : S27) (A : Option Addr) (c : Nat) : (Try.prog.info? 27).map (·.size) = some (cellsV x A c).size := by kernel_rfl
theorem builtL {P : Program} {Q : Exit → Act → World → Prop} {ops : Array Oper} {rest : List Oper} {o : Oper} {a : Act} {w : World} (N : Tmp) (t : TypeId) (parts : Array (Nat × Operand)) (vals : Array (Nat × Value)) (cells : Array Value) (hd : o.dst = some N) (hg : o.guard = none) (ho : o.op = .build t parts)
    (hm : parts.map (fun (i, x) => (i, a.eval x)) = vals) (hr : (Instr.build t vals).run P w = .ok (.agg cells) w) (h : wpList P ops Q rest (a.put (some N) (.agg cells)) w) : wpList P ops Q (o :: rest) a w := by
  refine valueL (some N) hd hg (.agg cells) ?_ h
  unfold execOp
  simp only [ho, hm, Sem.run_bind, hr, Result.andThen_ok]
  rfl
theorem skipL {P : Program} {Q : Exit → Act → World → Prop} {ops : Array Oper} {rest : List Oper} {o : Oper} {a : Act} {w w' : World} (hd : o.dst = none) (hg : o.guard = none) (hrun : (execOp a.eval o).run P w = .ok .skip w') (h : wpList P ops Q rest a w') : wpList P ops Q (o :: rest) a w := by
  refine wpList_plain hg fun K hK => ?_
  unfold Oper.wp
  rw [hrun]
  show K (a.put o.dst undef) w'
  rw [hd]
  exact hK _ _ h

theorem cmp_no {x y : S27} (h : ¬ (mayV x = true ∧ mayV y = true)) : ((cmpV x y : Nat) : Int) = 0 ∧ errV x y = 2 := by
  rw [cmpV, errV, if_neg h, if_neg h]; exact ⟨rfl, rfl⟩
theorem cmp_yes {x y : S27} (hm : mayV x = true) (hn : mayV y = true) : errV x y = 0 ∧ (0 : Int) ≤ (cmpV x y : Nat) ∧ (IntKind.i64.wrap ((cmpV x y : Nat) : Int) != ((cmpV x y : Nat) : Int)) = false := by
  rw [errV, if_pos ⟨hm, hn⟩]
  have h : cmpV x y ≤ 2 := by rw [cmpV, if_pos ⟨hm, hn⟩]; exact cmp_lt _ _
  refine ⟨rfl, by omega, ?_⟩
  rcases (show cmpV x y = 0 ∨ cmpV x y = 1 ∨ cmpV x y = 2 by omega) with h | h | h <;> rw [h] <;> decide

set_option maxHeartbeats 4000000 in
set_option maxRecDepth 100000 in
theorem compares_walk (x y : S27) (A B : Option Addr) (c d : Nat) (w : World) (hc : x.f3.length ≤ c) (hd : y.f3.length ≤ d) (hF : Kd.F k27 w (fun k => k < w.heap.size) A x.f3.length x.f3) (hG : Kd.F k27 w (fun k => k < w.heap.size) B y.f3.length y.f3) (hx : Wf x) (hy : Wf y) :
    Calls Try.prog 4 #[.agg #[.int .u8 x.f0, .int .i64 x.f1, .string x.f2, .slice A x.f3.length c, .int .i64 x.f4], .agg #[.int .u8 y.f0, .int .i64 y.f1, .string y.f2, .slice B y.f3.length d, .int .i64 y.f4]] w fun e w' => e = .returned (.bool true) ∧ Ex (fun _ => False) w w' := by
  have HF := Aside0.mk hF
  have HG := Aside0.mk hG
  clear hF hG
  go_enter Try.func4, Try.ntmps4
  go_upto_region 1 with (fail)
  rw [show #[Value.int .u8 x.f0, .int .i64 x.f1, .string x.f2, .slice A x.f3.length c, .int .i64 x.f4] = cellsV x A c from rfl, show #[Value.int .u8 y.f0, .int .i64 y.f1, .string y.f2, .slice B y.f3.length d, .int .i64 y.f4] = cellsV y B d from rfl]
  have hbx := blk_alloc (blk_new1 w (.cells (cellsV x A c) 27)) (.cells (cellsV y B d) 27)
  have hby := blk_new2 w (.cells (cellsV x A c) 27) (.cells (cellsV y B d) 27)
  refine wp_region_lit ?_
  refine wpList_load_row rfl 27 (.tmp 2) rfl w.heap.size rfl 27 (cellsV x A c) (0, 0) _ hbx Try.underlying27 rfl (sizeV _ _ _) ?_
  simp only [Act.put, List.setIfInBounds_toArray, List.set_cons_zero, List.set_cons_succ]
  refine wpList_load_row rfl 27 (.tmp 3) rfl (w.heap.size + 1) rfl 27 (cellsV y B d) (0, 0) _ hby Try.underlying27 rfl (sizeV _ _ _) ?_
  simp only [Act.put, List.setIfInBounds_toArray, List.set_cons_zero, List.set_cons_succ]
  refine builtL 13 28 _ (#[(0, .agg (cellsV x A c)), (1, .agg (cellsV y B d))]) _ rfl rfl rfl (by simp only [List.map_toArray, List.map_cons, List.map_nil, Act.eval]; rfl) (built28 _ _ _ _ _ _ _) ?_
  simp only [Act.put, List.setIfInBounds_toArray, List.set_cons_zero, List.set_cons_succ]
  refine wpList_load_row rfl 27 (.tmp 3) rfl (w.heap.size + 1) rfl 27 (cellsV y B d) (0, 0) _ hby Try.underlying27 rfl (sizeV _ _ _) ?_
  simp only [Act.put, List.setIfInBounds_toArray, List.set_cons_zero, List.set_cons_succ]
  refine wpList_load_row rfl 27 (.tmp 2) rfl w.heap.size rfl 27 (cellsV x A c) (0, 0) _ hbx Try.underlying27 rfl (sizeV _ _ _) ?_
  simp only [Act.put, List.setIfInBounds_toArray, List.set_cons_zero, List.set_cons_succ]
  refine builtL 16 28 _ (#[(0, .agg (cellsV y B d)), (1, .agg (cellsV x A c))]) _ rfl rfl rfl (by simp only [List.map_toArray, List.map_cons, List.map_nil, Act.eval]; rfl) (built28 _ _ _ _ _ _ _) ?_
  simp only [Act.put, List.setIfInBounds_toArray, List.set_cons_zero, List.set_cons_succ]
  refine wpList_load_row rfl 27 (.tmp 2) rfl w.heap.size rfl 27 (cellsV x A c) (0, 0) _ hbx Try.underlying27 rfl (sizeV _ _ _) ?_
  simp only [Act.put, List.setIfInBounds_toArray, List.set_cons_zero, List.set_cons_succ]
  refine wpList_load_row rfl 27 (.tmp 2) rfl w.heap.size rfl 27 (cellsV x A c) (0, 0) _ hbx Try.underlying27 rfl (sizeV _ _ _) ?_
  simp only [Act.put, List.setIfInBounds_toArray, List.set_cons_zero, List.set_cons_succ]
  refine builtL 19 28 _ (#[(0, .agg (cellsV x A c)), (1, .agg (cellsV x A c))]) _ rfl rfl rfl (by simp only [List.map_toArray, List.map_cons, List.map_nil, Act.eval]; rfl) (built28 _ _ _ _ _ _ _) ?_
  simp only [Act.put, List.setIfInBounds_toArray, List.set_cons_zero, List.set_cons_succ]
  refine builtL 20 29 _ (#[(0, .agg (pairV x y A B c d)), (1, .agg (pairV y x B A d c)), (2, .agg (pairV x x A A c c))]) _ rfl rfl rfl (by simp only [List.map_toArray, List.map_cons, List.map_nil, Act.eval]; rfl) (built29 _ _ _ _ _ _ _) ?_
  simp only [Act.put, List.setIfInBounds_toArray, List.set_cons_zero, List.set_cons_succ]
  refine valueL (some 5) rfl rfl (.pointer (some ⟨((w.alloc (.cells (cellsV x A c) 27)).alloc (.cells (cellsV y B d) 27)).heap.size, 0, none⟩)) (exec_value (s := Instr.alloc 29 true (.tuple #[])) rfl (alloc29 _)) ?_
  simp only [Act.put, List.setIfInBounds_toArray, List.set_cons_zero, List.set_cons_succ]
  refine wpList_store_row rfl 29 (.tmp 5) (.tmp 20) rfl ((w.alloc (.cells (cellsV x A c) 27)).alloc (.cells (cellsV y B d) 27)).heap.size (tripleV x y A B c d) rfl rfl 29 zero29 (blk_new1 _ _) (size29 x y A B c d) (zeros29 x y A B c d) (one29 x y A B c d) ?_
  have HB := Aside0.mk (setRow_heap (((w.alloc (.cells (cellsV x A c) 27)).alloc (.cells (cellsV y B d) 27)).alloc (.cells zero29 29)) ((w.alloc (.cells (cellsV x A c) 27)).alloc (.cells (cellsV y B d) 27)).heap.size zero29 (tripleV x y A B c d) 29 (0, 0) (blk_new1 _ _))
  have HX := Aside0.mk (show Ex (fun _ => False) ((w.alloc (.cells (cellsV x A c) 27)).alloc (.cells (cellsV y B d) 27)) ((((w.alloc (.cells (cellsV x A c) 27)).alloc (.cells (cellsV y B d) 27)).alloc (.cells zero29 29)).setRow ((w.alloc (.cells (cellsV x A c) 27)).alloc (.cells (cellsV y B d) 27)).heap.size (tripleV x y A B c d)) from ⟨rfl, rfl, rfl, by simp [World.setRow], fun b hb _ => (setRow_other _ _ _ _ (by omega)).trans (Below.heap_alloc _ _ b hb)⟩)
  have HBX := Aside0.mk hbx
  clear hbx hby
  simp only [Act.put]
  generalize hW : (((w.alloc (.cells (cellsV x A c) 27)).alloc (.cells (cellsV y B d) 27)).alloc (.cells zero29 29)).setRow ((w.alloc (.cells (cellsV x A c) 27)).alloc (.cells (cellsV y B d) 27)).heap.size (tripleV x y A B c d) = W3 at HB HX ⊢
  clear hW
  generalize hS : ((w.alloc (.cells (cellsV x A c) 27)).alloc (.cells (cellsV y B d) 27)).heap.size = g at HB ⊢
  generalize tripleV x y A B c d = p0
  generalize pairV x y A B c d = p1
  generalize pairV y x B A d c = p2
  generalize pairV x x A A c c = p3
  generalize cellsV x A c = q1
  generalize cellsV y B d = q2
  go_wp2_with fail
  have HW := Aside0.mk ((((Ex.refl (fun _ => False) w).alloc _).alloc _).trans HX.out (fun _ h => h.elim))
  have HFX3 := Aside0.mk (ex_F HW.out HF.out (fun _ _ h => h))
  have HFY3 := Aside0.mk (ex_F HW.out HG.out (fun _ _ h => h))
  go_loopg [6] 3 (fun m v wr => ∃ k : Nat, v = .int .i64 k ∧ Aside0 (k + m = 3) ∧ Aside0 (Ex (fun _ => False) W3 wr))
  case atStart => exact ⟨0, rfl, ⟨rfl⟩, ⟨Ex.refl _ _⟩⟩
  case round =>
    obtain ⟨k, rfl, HK, HR⟩ := hrel
    by_cases h3 : k = 3
    · subst h3
      have HXX := Aside0.mk (HX.out.trans HR.out (fun _ h => h.elim))
      have hblk : wr.heap[w.heap.size]? = some (.cells #[.int .u8 x.f0, .int .i64 x.f1, .string x.f2, .slice A x.f3.length c, .int .i64 x.f4] 27 (0, 0)) := HXX.out.blk HBX.out (fun h => h)
      have hlt := lt_of_blk hblk
      have HBK := Aside0.mk hblk
      have HFX := Aside0.mk (ex_F HR.out HFX3.out (fun _ _ h => h))
      have HWR := Aside0.mk (HW.out.trans HR.out (fun _ h => h.elim))
      clear hblk
      have c0 : wr.cell? ⟨w.heap.size, 0, none⟩ = some (.int .u8 x.f0) := (blk_cell HBK.out 0).trans rfl
      have c1 : wr.cell? ⟨w.heap.size, 1, none⟩ = some (.int .i64 x.f1) := (blk_cell HBK.out 1).trans rfl
      have c2 : wr.cell? ⟨w.heap.size, 2, none⟩ = some (.string x.f2) := (blk_cell HBK.out 2).trans rfl
      have c3 : wr.cell? ⟨w.heap.size, 3, none⟩ = some (.slice A x.f3.length c) := (blk_cell HBK.out 3).trans rfl
      have c4 : wr.cell? ⟨w.heap.size, 4, none⟩ = some (.int .i64 x.f4) := (blk_cell HBK.out 4).trans rfl
      cases hma : mayV x with
      | false =>
        have HMA := Aside0.mk hma
        clear hma
        go_wp2_with fail
        refine (keys_no x A c _ (fun k => k < w.heap.size) HFX.out HMA.out).mono ?_
        rintro e w1 ⟨rfl, hx1⟩
        obtain ⟨hcq, hfq⟩ := hx1.cells
        go_wp2_with fail
        refine (refmay_calls x A c _ hc (Kd.F_now (ex_F hx1 HFX.out (fun _ _ h => h))) hx).mono ?_
        rintro e w2 ⟨rfl, hb2⟩
        have hx2 := Ex.then_below hx1 hb2
        clear hcq hfq hb2
        rw [HMA.out]
        go_wp2_with fail
        refine (lives_calls _).mono ?_
        rintro e w3 ⟨rfl, hx3⟩
        have hx4 := Ex.trans hx2 hx3 (fun _ h => h.elim)
        go_wp2_with fail
        go_ret
        exact ⟨rfl, HWR.out.trans hx4 (fun _ h => h.elim)⟩
      | true =>
        have HMA := Aside0.mk hma
        clear hma
        go_wp2_with fail
        refine (keys_yes x A c _ (fun k => k < w.heap.size) HFX.out HMA.out).mono ?_
        rintro e w1 ⟨rfl, hx1⟩
        obtain ⟨hcq, hfq⟩ := hx1.cells
        go_wp2_with fail
        refine (refmay_calls x A c _ hc (Kd.F_now (ex_F hx1 HFX.out (fun _ _ h => h))) hx).mono ?_
        rintro e w2 ⟨rfl, hb2⟩
        have hx2 := Ex.then_below hx1 hb2
        clear hcq hfq hb2
        obtain ⟨hcq, hfq⟩ := hx2.cells
        rw [HMA.out]
        generalize hbk : (markV x).keys = bk
        have HBB := Aside0.mk hbk
        clear hbk
        go_wp2_with fail
        refine (refkeys_calls x A c _ hc (Kd.F_now (ex_F hx2 HFX.out (fun _ _ h => h))) HMA.out).mono ?_
        rintro e w3 ⟨rfl, hb3⟩
        have hx3 := Ex.then_below hx2 hb3
        rw [HBB.out]
        clear hcq hfq hb3
        have hbb : (bk == bk) = true := by simp
        go_wp2_with fail
        refine (lives_calls _).mono ?_
        rintro e w4 ⟨rfl, hx4⟩
        have hx5 := Ex.trans hx3 hx4 (fun _ h => h.elim)
        go_wp2_with fail
        go_ret
        exact ⟨rfl, HWR.out.trans hx5 (fun _ h => h.elim)⟩
    have hk : k = 0 ∨ k = 1 ∨ k = 2 := by have := HK.out; omega
    have hblk := HR.out.blk HB.out (fun h => h)
    rw [triple_lit] at hblk
    rcases hk with rfl | rfl | rfl
    · skip
      have HBK := Aside0.mk hblk
      clear hblk h3
      have HS : Aside0 (∀ w', Ex (fun _ => False) wr w' → Ex (fun _ => False) wr w' ∧ w'.cell? ⟨g, 0, none⟩ = some (.int .u8 x.f0) ∧ w'.cell? ⟨g, 1, none⟩ = some (.int .i64 x.f1) ∧ w'.cell? ⟨g, 2, none⟩ = some (.string x.f2) ∧ w'.cell? ⟨g, 3, none⟩ = some (.slice A x.f3.length c) ∧ w'.cell? ⟨g, 4, none⟩ = some (.int .i64 x.f4) ∧ w'.cell? ⟨g, 5, none⟩ = some (.int .u8 y.f0) ∧ w'.cell? ⟨g, 5 + 1, none⟩ = some (.int .i64 y.f1) ∧ w'.cell? ⟨g, 5 + 2, none⟩ = some (.string y.f2) ∧ w'.cell? ⟨g, 5 + 3, none⟩ = some (.slice B y.f3.length d) ∧ w'.cell? ⟨g, 5 + 4, none⟩ = some (.int .i64 y.f4)) := ⟨fun w' h => ⟨h, (blk_cell (h.blk HBK.out (fun h => h)) 0).trans rfl, (blk_cell (h.blk HBK.out (fun h => h)) 1).trans rfl, (blk_cell (h.blk HBK.out (fun h => h)) 2).trans rfl, (blk_cell (h.blk HBK.out (fun h => h)) 3).trans rfl, (blk_cell (h.blk HBK.out (fun h => h)) 4).trans rfl, (blk_cell (h.blk HBK.out (fun h => h)) 5).trans rfl, (blk_cell (h.blk HBK.out (fun h => h)) 6).trans rfl, (blk_cell (h.blk HBK.out (fun h => h)) 7).trans rfl, (blk_cell (h.blk HBK.out (fun h => h)) 8).trans rfl, (blk_cell (h.blk HBK.out (fun h => h)) 9).trans rfl⟩⟩
      have hlt := lt_of_blk HBK.out
      have HFX := Aside0.mk (ex_F HR.out HFX3.out (fun _ _ h => h))
      have HFY := Aside0.mk (ex_F HR.out HFY3.out (fun _ _ h => h))
      cases hma : mayV x with
      | false =>
        cases hmb : mayV y with
        | false =>
          have HMA := Aside0.mk hma
          have HMB := Aside0.mk hmb
          clear hma hmb
          have hv := cmp_no (x := x) (y := y) (by simp [HMA.out, HMB.out])
          have HV := Aside0.mk hv
          clear hv
          have c0 : wr.cell? ⟨g, 0, none⟩ = some (.int .u8 x.f0) := (blk_cell HBK.out 0).trans rfl
          have c1 : wr.cell? ⟨g, 1, none⟩ = some (.int .i64 x.f1) := (blk_cell HBK.out 1).trans rfl
          have c2 : wr.cell? ⟨g, 2, none⟩ = some (.string x.f2) := (blk_cell HBK.out 2).trans rfl
          have c3 : wr.cell? ⟨g, 3, none⟩ = some (.slice A x.f3.length c) := (blk_cell HBK.out 3).trans rfl
          have c4 : wr.cell? ⟨g, 4, none⟩ = some (.int .i64 x.f4) := (blk_cell HBK.out 4).trans rfl
          have d0 : wr.cell? ⟨g, 5, none⟩ = some (.int .u8 y.f0) := (blk_cell HBK.out 5).trans rfl
          have d1 : wr.cell? ⟨g, 5 + 1, none⟩ = some (.int .i64 y.f1) := (blk_cell HBK.out 6).trans rfl
          have d2 : wr.cell? ⟨g, 5 + 2, none⟩ = some (.string y.f2) := (blk_cell HBK.out 7).trans rfl
          have d3 : wr.cell? ⟨g, 5 + 3, none⟩ = some (.slice B y.f3.length d) := (blk_cell HBK.out 8).trans rfl
          have d4 : wr.cell? ⟨g, 5 + 4, none⟩ = some (.int .i64 y.f4) := (blk_cell HBK.out 9).trans rfl
          go_wp2_with fail
          go_region_held3 (fun w' => Ex (fun _ => False) wr w' ∧ w'.cell? ⟨g, 0, none⟩ = some (.int .u8 x.f0) ∧ w'.cell? ⟨g, 1, none⟩ = some (.int .i64 x.f1) ∧ w'.cell? ⟨g, 2, none⟩ = some (.string x.f2) ∧ w'.cell? ⟨g, 3, none⟩ = some (.slice A x.f3.length c) ∧ w'.cell? ⟨g, 4, none⟩ = some (.int .i64 x.f4) ∧ w'.cell? ⟨g, 5, none⟩ = some (.int .u8 y.f0) ∧ w'.cell? ⟨g, 5 + 1, none⟩ = some (.int .i64 y.f1) ∧ w'.cell? ⟨g, 5 + 2, none⟩ = some (.string y.f2) ∧ w'.cell? ⟨g, 5 + 3, none⟩ = some (.slice B y.f3.length d) ∧ w'.cell? ⟨g, 5 + 4, none⟩ = some (.int .i64 y.f4)) ((first | exact HS.out _ (Ex.drew (Ex.refl _ _)) | exact HS.out _ (by assumption))) (first | (go_at_call 9; refine (compare_calls x y A B c d _ (fun k => k < w.heap.size) (Kd.F_drew HFX.out) (Kd.F_drew HFY.out)).mono ?_; rintro e w1 ⟨rfl, hx1⟩; have hx1 := Ex.trans (Ex.drew (Ex.refl (fun _ => False) _)) hx1 (fun _ h => h.elim)))
          obtain ⟨hcq, hfq⟩ := hx1.cells
          rw [HV.out.1, HV.out.2]
          go_wp2_with fail
          refine (refmay_calls x A c _ hc (Kd.F_now (ex_F hx1 HFX.out (fun _ _ h => h))) hx).mono ?_
          rintro e w2 ⟨rfl, hb2⟩
          have hx2 := Ex.then_below hx1 hb2
          clear hcq hfq
          obtain ⟨hcq, hfq⟩ := hx2.cells
          clear hb2 hx1
          rw [HMA.out]
          go_wp2_with fail
          go_roundg (gk - 1)
          case measure => have := HK.out; omega
          case rel => exact ⟨1, by go_num, ⟨by have := HK.out; omega⟩, ⟨HR.out.trans hx2 (fun _ h => h.elim)⟩⟩
        | true =>
          have HMA := Aside0.mk hma
          have HMB := Aside0.mk hmb
          clear hma hmb
          have hv := cmp_no (x := x) (y := y) (by simp [HMA.out, HMB.out])
          have HV := Aside0.mk hv
          clear hv
          have c0 : wr.cell? ⟨g, 0, none⟩ = some (.int .u8 x.f0) := (blk_cell HBK.out 0).trans rfl
          have c1 : wr.cell? ⟨g, 1, none⟩ = some (.int .i64 x.f1) := (blk_cell HBK.out 1).trans rfl
          have c2 : wr.cell? ⟨g, 2, none⟩ = some (.string x.f2) := (blk_cell HBK.out 2).trans rfl
          have c3 : wr.cell? ⟨g, 3, none⟩ = some (.slice A x.f3.length c) := (blk_cell HBK.out 3).trans rfl
          have c4 : wr.cell? ⟨g, 4, none⟩ = some (.int .i64 x.f4) := (blk_cell HBK.out 4).trans rfl
          have d0 : wr.cell? ⟨g, 5, none⟩ = some (.int .u8 y.f0) := (blk_cell HBK.out 5).trans rfl
          have d1 : wr.cell? ⟨g, 5 + 1, none⟩ = some (.int .i64 y.f1) := (blk_cell HBK.out 6).trans rfl
          have d2 : wr.cell? ⟨g, 5 + 2, none⟩ = some (.string y.f2) := (blk_cell HBK.out 7).trans rfl
          have d3 : wr.cell? ⟨g, 5 + 3, none⟩ = some (.slice B y.f3.length d) := (blk_cell HBK.out 8).trans rfl
          have d4 : wr.cell? ⟨g, 5 + 4, none⟩ = some (.int .i64 y.f4) := (blk_cell HBK.out 9).trans rfl
          go_wp2_with fail
          go_region_held3 (fun w' => Ex (fun _ => False) wr w' ∧ w'.cell? ⟨g, 0, none⟩ = some (.int .u8 x.f0) ∧ w'.cell? ⟨g, 1, none⟩ = some (.int .i64 x.f1) ∧ w'.cell? ⟨g, 2, none⟩ = some (.string x.f2) ∧ w'.cell? ⟨g, 3, none⟩ = some (.slice A x.f3.length c) ∧ w'.cell? ⟨g, 4, none⟩ = some (.int .i64 x.f4) ∧ w'.cell? ⟨g, 5, none⟩ = some (.int .u8 y.f0) ∧ w'.cell? ⟨g, 5 + 1, none⟩ = some (.int .i64 y.f1) ∧ w'.cell? ⟨g, 5 + 2, none⟩ = some (.string y.f2) ∧ w'.cell? ⟨g, 5 + 3, none⟩ = some (.slice B y.f3.length d) ∧ w'.cell? ⟨g, 5 + 4, none⟩ = some (.int .i64 y.f4)) ((first | exact HS.out _ (Ex.drew (Ex.refl _ _)) | exact HS.out _ (by assumption))) (first | (go_at_call 9; refine (compare_calls x y A B c d _ (fun k => k < w.heap.size) (Kd.F_drew HFX.out) (Kd.F_drew HFY.out)).mono ?_; rintro e w1 ⟨rfl, hx1⟩; have hx1 := Ex.trans (Ex.drew (Ex.refl (fun _ => False) _)) hx1 (fun _ h => h.elim)))
          obtain ⟨hcq, hfq⟩ := hx1.cells
          rw [HV.out.1, HV.out.2]
          go_wp2_with fail
          refine (refmay_calls x A c _ hc (Kd.F_now (ex_F hx1 HFX.out (fun _ _ h => h))) hx).mono ?_
          rintro e w2 ⟨rfl, hb2⟩
          have hx2 := Ex.then_below hx1 hb2
          clear hcq hfq
          obtain ⟨hcq, hfq⟩ := hx2.cells
          clear hb2 hx1
          rw [HMA.out]
          go_wp2_with fail
          go_roundg (gk - 1)
          case measure => have := HK.out; omega
          case rel => exact ⟨1, by go_num, ⟨by have := HK.out; omega⟩, ⟨HR.out.trans hx2 (fun _ h => h.elim)⟩⟩
      | true =>
        cases hmb : mayV y with
        | false =>
          have HMA := Aside0.mk hma
          have HMB := Aside0.mk hmb
          clear hma hmb
          have hv := cmp_no (x := x) (y := y) (by simp [HMA.out, HMB.out])
          have HV := Aside0.mk hv
          clear hv
          have c0 : wr.cell? ⟨g, 0, none⟩ = some (.int .u8 x.f0) := (blk_cell HBK.out 0).trans rfl
          have c1 : wr.cell? ⟨g, 1, none⟩ = some (.int .i64 x.f1) := (blk_cell HBK.out 1).trans rfl
          have c2 : wr.cell? ⟨g, 2, none⟩ = some (.string x.f2) := (blk_cell HBK.out 2).trans rfl
          have c3 : wr.cell? ⟨g, 3, none⟩ = some (.slice A x.f3.length c) := (blk_cell HBK.out 3).trans rfl
          have c4 : wr.cell? ⟨g, 4, none⟩ = some (.int .i64 x.f4) := (blk_cell HBK.out 4).trans rfl
          have d0 : wr.cell? ⟨g, 5, none⟩ = some (.int .u8 y.f0) := (blk_cell HBK.out 5).trans rfl
          have d1 : wr.cell? ⟨g, 5 + 1, none⟩ = some (.int .i64 y.f1) := (blk_cell HBK.out 6).trans rfl
          have d2 : wr.cell? ⟨g, 5 + 2, none⟩ = some (.string y.f2) := (blk_cell HBK.out 7).trans rfl
          have d3 : wr.cell? ⟨g, 5 + 3, none⟩ = some (.slice B y.f3.length d) := (blk_cell HBK.out 8).trans rfl
          have d4 : wr.cell? ⟨g, 5 + 4, none⟩ = some (.int .i64 y.f4) := (blk_cell HBK.out 9).trans rfl
          go_wp2_with fail
          go_region_held3 (fun w' => Ex (fun _ => False) wr w' ∧ w'.cell? ⟨g, 0, none⟩ = some (.int .u8 x.f0) ∧ w'.cell? ⟨g, 1, none⟩ = some (.int .i64 x.f1) ∧ w'.cell? ⟨g, 2, none⟩ = some (.string x.f2) ∧ w'.cell? ⟨g, 3, none⟩ = some (.slice A x.f3.length c) ∧ w'.cell? ⟨g, 4, none⟩ = some (.int .i64 x.f4) ∧ w'.cell? ⟨g, 5, none⟩ = some (.int .u8 y.f0) ∧ w'.cell? ⟨g, 5 + 1, none⟩ = some (.int .i64 y.f1) ∧ w'.cell? ⟨g, 5 + 2, none⟩ = some (.string y.f2) ∧ w'.cell? ⟨g, 5 + 3, none⟩ = some (.slice B y.f3.length d) ∧ w'.cell? ⟨g, 5 + 4, none⟩ = some (.int .i64 y.f4)) ((first | exact HS.out _ (Ex.drew (Ex.refl _ _)) | exact HS.out _ (by assumption))) (first | (go_at_call 9; refine (compare_calls x y A B c d _ (fun k => k < w.heap.size) (Kd.F_drew HFX.out) (Kd.F_drew HFY.out)).mono ?_; rintro e w1 ⟨rfl, hx1⟩; have hx1 := Ex.trans (Ex.drew (Ex.refl (fun _ => False) _)) hx1 (fun _ h => h.elim)))
          obtain ⟨hcq, hfq⟩ := hx1.cells
          rw [HV.out.1, HV.out.2]
          go_wp2_with fail
          refine (refmay_calls x A c _ hc (Kd.F_now (ex_F hx1 HFX.out (fun _ _ h => h))) hx).mono ?_
          rintro e w2 ⟨rfl, hb2⟩
          have hx2 := Ex.then_below hx1 hb2
          clear hcq hfq
          obtain ⟨hcq, hfq⟩ := hx2.cells
          clear hb2 hx1
          rw [HMA.out]
          go_wp2_with fail
          refine (refmay_calls y B d _ hd (Kd.F_now (ex_F hx2 HFY.out (fun _ _ h => h))) hy).mono ?_
          rintro e w3 ⟨rfl, hb3⟩
          have hx3 := Ex.then_below hx2 hb3
          clear hcq hfq
          obtain ⟨hcq, hfq⟩ := hx3.cells
          clear hb3 hx2
          rw [HMB.out]
          go_wp2_with fail
          go_roundg (gk - 1)
          case measure => have := HK.out; omega
          case rel => exact ⟨1, by go_num, ⟨by have := HK.out; omega⟩, ⟨HR.out.trans hx3 (fun _ h => h.elim)⟩⟩
        | true =>
          have HMA := Aside0.mk hma
          have HMB := Aside0.mk hmb
          clear hma hmb
          have hv := cmp_yes (x := x) (y := y) HMA.out HMB.out
          have HV := Aside0.mk hv.1
          have hv1 := hv.2.1
          have hv2 := hv.2.2
          clear hv
          have c0 : wr.cell? ⟨g, 0, none⟩ = some (.int .u8 x.f0) := (blk_cell HBK.out 0).trans rfl
          have c1 : wr.cell? ⟨g, 1, none⟩ = some (.int .i64 x.f1) := (blk_cell HBK.out 1).trans rfl
          have c2 : wr.cell? ⟨g, 2, none⟩ = some (.string x.f2) := (blk_cell HBK.out 2).trans rfl
          have c3 : wr.cell? ⟨g, 3, none⟩ = some (.slice A x.f3.length c) := (blk_cell HBK.out 3).trans rfl
          have c4 : wr.cell? ⟨g, 4, none⟩ = some (.int .i64 x.f4) := (blk_cell HBK.out 4).trans rfl
          have d0 : wr.cell? ⟨g, 5, none⟩ = some (.int .u8 y.f0) := (blk_cell HBK.out 5).trans rfl
          have d1 : wr.cell? ⟨g, 5 + 1, none⟩ = some (.int .i64 y.f1) := (blk_cell HBK.out 6).trans rfl
          have d2 : wr.cell? ⟨g, 5 + 2, none⟩ = some (.string y.f2) := (blk_cell HBK.out 7).trans rfl
          have d3 : wr.cell? ⟨g, 5 + 3, none⟩ = some (.slice B y.f3.length d) := (blk_cell HBK.out 8).trans rfl
          have d4 : wr.cell? ⟨g, 5 + 4, none⟩ = some (.int .i64 y.f4) := (blk_cell HBK.out 9).trans rfl
          go_wp2_with fail
          go_region_held3 (fun w' => Ex (fun _ => False) wr w' ∧ w'.cell? ⟨g, 0, none⟩ = some (.int .u8 x.f0) ∧ w'.cell? ⟨g, 1, none⟩ = some (.int .i64 x.f1) ∧ w'.cell? ⟨g, 2, none⟩ = some (.string x.f2) ∧ w'.cell? ⟨g, 3, none⟩ = some (.slice A x.f3.length c) ∧ w'.cell? ⟨g, 4, none⟩ = some (.int .i64 x.f4) ∧ w'.cell? ⟨g, 5, none⟩ = some (.int .u8 y.f0) ∧ w'.cell? ⟨g, 5 + 1, none⟩ = some (.int .i64 y.f1) ∧ w'.cell? ⟨g, 5 + 2, none⟩ = some (.string y.f2) ∧ w'.cell? ⟨g, 5 + 3, none⟩ = some (.slice B y.f3.length d) ∧ w'.cell? ⟨g, 5 + 4, none⟩ = some (.int .i64 y.f4)) ((first | exact HS.out _ (Ex.drew (Ex.refl _ _)) | exact HS.out _ (by assumption))) (first | (go_at_call 9; refine (compare_calls x y A B c d _ (fun k => k < w.heap.size) (Kd.F_drew HFX.out) (Kd.F_drew HFY.out)).mono ?_; rintro e w1 ⟨rfl, hx1⟩; have hx1 := Ex.trans (Ex.drew (Ex.refl (fun _ => False) _)) hx1 (fun _ h => h.elim)))
          obtain ⟨hcq, hfq⟩ := hx1.cells
          rw [HV.out]
          go_wp2_with fail
          refine (refmay_calls x A c _ hc (Kd.F_now (ex_F hx1 HFX.out (fun _ _ h => h))) hx).mono ?_
          rintro e w2 ⟨rfl, hb2⟩
          have hx2 := Ex.then_below hx1 hb2
          clear hcq hfq
          obtain ⟨hcq, hfq⟩ := hx2.cells
          clear hb2 hx1
          rw [HMA.out]
          go_wp2_with fail
          refine (refmay_calls y B d _ hd (Kd.F_now (ex_F hx2 HFY.out (fun _ _ h => h))) hy).mono ?_
          rintro e w3 ⟨rfl, hb3⟩
          have hx3 := Ex.then_below hx2 hb3
          clear hcq hfq
          obtain ⟨hcq, hfq⟩ := hx3.cells
          clear hb3 hx2
          rw [HMB.out]
          have hx3b := hx3
          go_wp2_with fail
          have HS3 : Aside0 (∀ w', Ex (fun _ => False) wr w' → Ex (fun _ => False) wr w' ∧ w'.cell? ⟨g, 0, none⟩ = some (.int .u8 x.f0) ∧ w'.cell? ⟨g, 1, none⟩ = some (.int .i64 x.f1) ∧ w'.cell? ⟨g, 2, none⟩ = some (.string x.f2) ∧ w'.cell? ⟨g, 3, none⟩ = some (.slice A x.f3.length c) ∧ w'.cell? ⟨g, 4, none⟩ = some (.int .i64 x.f4) ∧ w'.cell? ⟨g, 5, none⟩ = some (.int .u8 y.f0) ∧ w'.cell? ⟨g, 5 + 1, none⟩ = some (.int .i64 y.f1) ∧ w'.cell? ⟨g, 5 + 2, none⟩ = some (.string y.f2) ∧ w'.cell? ⟨g, 5 + 3, none⟩ = some (.slice B y.f3.length d) ∧ w'.cell? ⟨g, 5 + 4, none⟩ = some (.int .i64 y.f4)) := HS
          go_region_held3 (fun w' => Ex (fun _ => False) wr w' ∧ w'.cell? ⟨g, 0, none⟩ = some (.int .u8 x.f0) ∧ w'.cell? ⟨g, 1, none⟩ = some (.int .i64 x.f1) ∧ w'.cell? ⟨g, 2, none⟩ = some (.string x.f2) ∧ w'.cell? ⟨g, 3, none⟩ = some (.slice A x.f3.length c) ∧ w'.cell? ⟨g, 4, none⟩ = some (.int .i64 x.f4) ∧ w'.cell? ⟨g, 5, none⟩ = some (.int .u8 y.f0) ∧ w'.cell? ⟨g, 5 + 1, none⟩ = some (.int .i64 y.f1) ∧ w'.cell? ⟨g, 5 + 2, none⟩ = some (.string y.f2) ∧ w'.cell? ⟨g, 5 + 3, none⟩ = some (.slice B y.f3.length d) ∧ w'.cell? ⟨g, 5 + 4, none⟩ = some (.int .i64 y.f4)) ((first | exact HS.out _ (Ex.drew hx3) | exact HS.out _ (by assumption))) (first | (go_at_call 11; refine (refcompare_calls x y A B c d _ hc (Kd.F_now (Kd.F_drew (ex_F hx3b HFX.out (fun _ _ h => h)))) hd (Kd.F_now (Kd.F_drew (ex_F hx3b HFY.out (fun _ _ h => h)))) HMA.out HMB.out).mono ?_; rintro e w4 ⟨rfl, hb4⟩; have hx4 := Ex.then_below (Ex.drew hx3b) hb4))
          go_wp2_with fail
          go_roundg (gk - 1)
          case measure => have := HK.out; omega
          case rel => exact ⟨1, by go_num, ⟨by have := HK.out; omega⟩, ⟨HR.out.trans hx4 (fun _ h => h.elim)⟩⟩
    · skip
      have HBK := Aside0.mk hblk
      clear hblk h3
      have HS : Aside0 (∀ w', Ex (fun _ => False) wr w' → Ex (fun _ => False) wr w' ∧ w'.cell? ⟨g, 10, none⟩ = some (.int .u8 y.f0) ∧ w'.cell? ⟨g, 10 + 1, none⟩ = some (.int .i64 y.f1) ∧ w'.cell? ⟨g, 10 + 2, none⟩ = some (.string y.f2) ∧ w'.cell? ⟨g, 10 + 3, none⟩ = some (.slice B y.f3.length d) ∧ w'.cell? ⟨g, 10 + 4, none⟩ = some (.int .i64 y.f4) ∧ w'.cell? ⟨g, 15, none⟩ = some (.int .u8 x.f0) ∧ w'.cell? ⟨g, 15 + 1, none⟩ = some (.int .i64 x.f1) ∧ w'.cell? ⟨g, 15 + 2, none⟩ = some (.string x.f2) ∧ w'.cell? ⟨g, 15 + 3, none⟩ = some (.slice A x.f3.length c) ∧ w'.cell? ⟨g, 15 + 4, none⟩ = some (.int .i64 x.f4)) := ⟨fun w' h => ⟨h, (blk_cell (h.blk HBK.out (fun h => h)) 10).trans rfl, (blk_cell (h.blk HBK.out (fun h => h)) 11).trans rfl, (blk_cell (h.blk HBK.out (fun h => h)) 12).trans rfl, (blk_cell (h.blk HBK.out (fun h => h)) 13).trans rfl, (blk_cell (h.blk HBK.out (fun h => h)) 14).trans rfl, (blk_cell (h.blk HBK.out (fun h => h)) 15).trans rfl, (blk_cell (h.blk HBK.out (fun h => h)) 16).trans rfl, (blk_cell (h.blk HBK.out (fun h => h)) 17).trans rfl, (blk_cell (h.blk HBK.out (fun h => h)) 18).trans rfl, (blk_cell (h.blk HBK.out (fun h => h)) 19).trans rfl⟩⟩
      have hlt := lt_of_blk HBK.out
      have HFX := Aside0.mk (ex_F HR.out HFX3.out (fun _ _ h => h))
      have HFY := Aside0.mk (ex_F HR.out HFY3.out (fun _ _ h => h))
      cases hma : mayV y with
      | false =>
        cases hmb : mayV x with
        | false =>
          have HMA := Aside0.mk hma
          have HMB := Aside0.mk hmb
          clear hma hmb
          have hv := cmp_no (x := y) (y := x) (by simp [HMA.out, HMB.out])
          have HV := Aside0.mk hv
          clear hv
          have c0 : wr.cell? ⟨g, 10, none⟩ = some (.int .u8 y.f0) := (blk_cell HBK.out 10).trans rfl
          have c1 : wr.cell? ⟨g, 10 + 1, none⟩ = some (.int .i64 y.f1) := (blk_cell HBK.out 11).trans rfl
          have c2 : wr.cell? ⟨g, 10 + 2, none⟩ = some (.string y.f2) := (blk_cell HBK.out 12).trans rfl
          have c3 : wr.cell? ⟨g, 10 + 3, none⟩ = some (.slice B y.f3.length d) := (blk_cell HBK.out 13).trans rfl
          have c4 : wr.cell? ⟨g, 10 + 4, none⟩ = some (.int .i64 y.f4) := (blk_cell HBK.out 14).trans rfl
          have d0 : wr.cell? ⟨g, 15, none⟩ = some (.int .u8 x.f0) := (blk_cell HBK.out 15).trans rfl
          have d1 : wr.cell? ⟨g, 15 + 1, none⟩ = some (.int .i64 x.f1) := (blk_cell HBK.out 16).trans rfl
          have d2 : wr.cell? ⟨g, 15 + 2, none⟩ = some (.string x.f2) := (blk_cell HBK.out 17).trans rfl
          have d3 : wr.cell? ⟨g, 15 + 3, none⟩ = some (.slice A x.f3.length c) := (blk_cell HBK.out 18).trans rfl
          have d4 : wr.cell? ⟨g, 15 + 4, none⟩ = some (.int .i64 x.f4) := (blk_cell HBK.out 19).trans rfl
          go_wp2_with fail
          go_region_held3 (fun w' => Ex (fun _ => False) wr w' ∧ w'.cell? ⟨g, 10, none⟩ = some (.int .u8 y.f0) ∧ w'.cell? ⟨g, 10 + 1, none⟩ = some (.int .i64 y.f1) ∧ w'.cell? ⟨g, 10 + 2, none⟩ = some (.string y.f2) ∧ w'.cell? ⟨g, 10 + 3, none⟩ = some (.slice B y.f3.length d) ∧ w'.cell? ⟨g, 10 + 4, none⟩ = some (.int .i64 y.f4) ∧ w'.cell? ⟨g, 15, none⟩ = some (.int .u8 x.f0) ∧ w'.cell? ⟨g, 15 + 1, none⟩ = some (.int .i64 x.f1) ∧ w'.cell? ⟨g, 15 + 2, none⟩ = some (.string x.f2) ∧ w'.cell? ⟨g, 15 + 3, none⟩ = some (.slice A x.f3.length c) ∧ w'.cell? ⟨g, 15 + 4, none⟩ = some (.int .i64 x.f4)) ((first | exact HS.out _ (Ex.drew (Ex.refl _ _)) | exact HS.out _ (by assumption))) (first | (go_at_call 9; refine (compare_calls y x B A d c _ (fun k => k < w.heap.size) (Kd.F_drew HFY.out) (Kd.F_drew HFX.out)).mono ?_; rintro e w1 ⟨rfl, hx1⟩; have hx1 := Ex.trans (Ex.drew (Ex.refl (fun _ => False) _)) hx1 (fun _ h => h.elim)))
          obtain ⟨hcq, hfq⟩ := hx1.cells
          rw [HV.out.1, HV.out.2]
          go_wp2_with fail
          refine (refmay_calls y B d _ hd (Kd.F_now (ex_F hx1 HFY.out (fun _ _ h => h))) hy).mono ?_
          rintro e w2 ⟨rfl, hb2⟩
          have hx2 := Ex.then_below hx1 hb2
          clear hcq hfq
          obtain ⟨hcq, hfq⟩ := hx2.cells
          clear hb2 hx1
          rw [HMA.out]
          go_wp2_with fail
          go_roundg (gk - 1)
          case measure => have := HK.out; omega
          case rel => exact ⟨2, by go_num, ⟨by have := HK.out; omega⟩, ⟨HR.out.trans hx2 (fun _ h => h.elim)⟩⟩
        | true =>
          have HMA := Aside0.mk hma
          have HMB := Aside0.mk hmb
          clear hma hmb
          have hv := cmp_no (x := y) (y := x) (by simp [HMA.out, HMB.out])
          have HV := Aside0.mk hv
          clear hv
          have c0 : wr.cell? ⟨g, 10, none⟩ = some (.int .u8 y.f0) := (blk_cell HBK.out 10).trans rfl
          have c1 : wr.cell? ⟨g, 10 + 1, none⟩ = some (.int .i64 y.f1) := (blk_cell HBK.out 11).trans rfl
          have c2 : wr.cell? ⟨g, 10 + 2, none⟩ = some (.string y.f2) := (blk_cell HBK.out 12).trans rfl
          have c3 : wr.cell? ⟨g, 10 + 3, none⟩ = some (.slice B y.f3.length d) := (blk_cell HBK.out 13).trans rfl
          have c4 : wr.cell? ⟨g, 10 + 4, none⟩ = some (.int .i64 y.f4) := (blk_cell HBK.out 14).trans rfl
          have d0 : wr.cell? ⟨g, 15, none⟩ = some (.int .u8 x.f0) := (blk_cell HBK.out 15).trans rfl
          have d1 : wr.cell? ⟨g, 15 + 1, none⟩ = some (.int .i64 x.f1) := (blk_cell HBK.out 16).trans rfl
          have d2 : wr.cell? ⟨g, 15 + 2, none⟩ = some (.string x.f2) := (blk_cell HBK.out 17).trans rfl
          have d3 : wr.cell? ⟨g, 15 + 3, none⟩ = some (.slice A x.f3.length c) := (blk_cell HBK.out 18).trans rfl
          have d4 : wr.cell? ⟨g, 15 + 4, none⟩ = some (.int .i64 x.f4) := (blk_cell HBK.out 19).trans rfl
          go_wp2_with fail
          go_region_held3 (fun w' => Ex (fun _ => False) wr w' ∧ w'.cell? ⟨g, 10, none⟩ = some (.int .u8 y.f0) ∧ w'.cell? ⟨g, 10 + 1, none⟩ = some (.int .i64 y.f1) ∧ w'.cell? ⟨g, 10 + 2, none⟩ = some (.string y.f2) ∧ w'.cell? ⟨g, 10 + 3, none⟩ = some (.slice B y.f3.length d) ∧ w'.cell? ⟨g, 10 + 4, none⟩ = some (.int .i64 y.f4) ∧ w'.cell? ⟨g, 15, none⟩ = some (.int .u8 x.f0) ∧ w'.cell? ⟨g, 15 + 1, none⟩ = some (.int .i64 x.f1) ∧ w'.cell? ⟨g, 15 + 2, none⟩ = some (.string x.f2) ∧ w'.cell? ⟨g, 15 + 3, none⟩ = some (.slice A x.f3.length c) ∧ w'.cell? ⟨g, 15 + 4, none⟩ = some (.int .i64 x.f4)) ((first | exact HS.out _ (Ex.drew (Ex.refl _ _)) | exact HS.out _ (by assumption))) (first | (go_at_call 9; refine (compare_calls y x B A d c _ (fun k => k < w.heap.size) (Kd.F_drew HFY.out) (Kd.F_drew HFX.out)).mono ?_; rintro e w1 ⟨rfl, hx1⟩; have hx1 := Ex.trans (Ex.drew (Ex.refl (fun _ => False) _)) hx1 (fun _ h => h.elim)))
          obtain ⟨hcq, hfq⟩ := hx1.cells
          rw [HV.out.1, HV.out.2]
          go_wp2_with fail
          refine (refmay_calls y B d _ hd (Kd.F_now (ex_F hx1 HFY.out (fun _ _ h => h))) hy).mono ?_
          rintro e w2 ⟨rfl, hb2⟩
          have hx2 := Ex.then_below hx1 hb2
          clear hcq hfq
          obtain ⟨hcq, hfq⟩ := hx2.cells
          clear hb2 hx1
          rw [HMA.out]
          go_wp2_with fail
          go_roundg (gk - 1)
          case measure => have := HK.out; omega
          case rel => exact ⟨2, by go_num, ⟨by have := HK.out; omega⟩, ⟨HR.out.trans hx2 (fun _ h => h.elim)⟩⟩
      | true =>
        cases hmb : mayV x with
        | false =>
          have HMA := Aside0.mk hma
          have HMB := Aside0.mk hmb
          clear hma hmb
          have hv := cmp_no (x := y) (y := x) (by simp [HMA.out, HMB.out])
          have HV := Aside0.mk hv
          clear hv
          have c0 : wr.cell? ⟨g, 10, none⟩ = some (.int .u8 y.f0) := (blk_cell HBK.out 10).trans rfl
          have c1 : wr.cell? ⟨g, 10 + 1, none⟩ = some (.int .i64 y.f1) := (blk_cell HBK.out 11).trans rfl
          have c2 : wr.cell? ⟨g, 10 + 2, none⟩ = some (.string y.f2) := (blk_cell HBK.out 12).trans rfl
          have c3 : wr.cell? ⟨g, 10 + 3, none⟩ = some (.slice B y.f3.length d) := (blk_cell HBK.out 13).trans rfl
          have c4 : wr.cell? ⟨g, 10 + 4, none⟩ = some (.int .i64 y.f4) := (blk_cell HBK.out 14).trans rfl
          have d0 : wr.cell? ⟨g, 15, none⟩ = some (.int .u8 x.f0) := (blk_cell HBK.out 15).trans rfl
          have d1 : wr.cell? ⟨g, 15 + 1, none⟩ = some (.int .i64 x.f1) := (blk_cell HBK.out 16).trans rfl
          have d2 : wr.cell? ⟨g, 15 + 2, none⟩ = some (.string x.f2) := (blk_cell HBK.out 17).trans rfl
          have d3 : wr.cell? ⟨g, 15 + 3, none⟩ = some (.slice A x.f3.length c) := (blk_cell HBK.out 18).trans rfl
          have d4 : wr.cell? ⟨g, 15 + 4, none⟩ = some (.int .i64 x.f4) := (blk_cell HBK.out 19).trans rfl
          go_wp2_with fail
          go_region_held3 (fun w' => Ex (fun _ => False) wr w' ∧ w'.cell? ⟨g, 10, none⟩ = some (.int .u8 y.f0) ∧ w'.cell? ⟨g, 10 + 1, none⟩ = some (.int .i64 y.f1) ∧ w'.cell? ⟨g, 10 + 2, none⟩ = some (.string y.f2) ∧ w'.cell? ⟨g, 10 + 3, none⟩ = some (.slice B y.f3.length d) ∧ w'.cell? ⟨g, 10 + 4, none⟩ = some (.int .i64 y.f4) ∧ w'.cell? ⟨g, 15, none⟩ = some (.int .u8 x.f0) ∧ w'.cell? ⟨g, 15 + 1, none⟩ = some (.int .i64 x.f1) ∧ w'.cell? ⟨g, 15 + 2, none⟩ = some (.string x.f2) ∧ w'.cell? ⟨g, 15 + 3, none⟩ = some (.slice A x.f3.length c) ∧ w'.cell? ⟨g, 15 + 4, none⟩ = some (.int .i64 x.f4)) ((first | exact HS.out _ (Ex.drew (Ex.refl _ _)) | exact HS.out _ (by assumption))) (first | (go_at_call 9; refine (compare_calls y x B A d c _ (fun k => k < w.heap.size) (Kd.F_drew HFY.out) (Kd.F_drew HFX.out)).mono ?_; rintro e w1 ⟨rfl, hx1⟩; have hx1 := Ex.trans (Ex.drew (Ex.refl (fun _ => False) _)) hx1 (fun _ h => h.elim)))
          obtain ⟨hcq, hfq⟩ := hx1.cells
          rw [HV.out.1, HV.out.2]
          go_wp2_with fail
          refine (refmay_calls y B d _ hd (Kd.F_now (ex_F hx1 HFY.out (fun _ _ h => h))) hy).mono ?_
          rintro e w2 ⟨rfl, hb2⟩
          have hx2 := Ex.then_below hx1 hb2
          clear hcq hfq
          obtain ⟨hcq, hfq⟩ := hx2.cells
          clear hb2 hx1
          rw [HMA.out]
          go_wp2_with fail
          refine (refmay_calls x A c _ hc (Kd.F_now (ex_F hx2 HFX.out (fun _ _ h => h))) hx).mono ?_
          rintro e w3 ⟨rfl, hb3⟩
          have hx3 := Ex.then_below hx2 hb3
          clear hcq hfq
          obtain ⟨hcq, hfq⟩ := hx3.cells
          clear hb3 hx2
          rw [HMB.out]
          go_wp2_with fail
          go_roundg (gk - 1)
          case measure => have := HK.out; omega
          case rel => exact ⟨2, by go_num, ⟨by have := HK.out; omega⟩, ⟨HR.out.trans hx3 (fun _ h => h.elim)⟩⟩
        | true =>
          have HMA := Aside0.mk hma
          have HMB := Aside0.mk hmb
          clear hma hmb
          have hv := cmp_yes (x := y) (y := x) HMA.out HMB.out
          have HV := Aside0.mk hv.1
          have hv1 := hv.2.1
          have hv2 := hv.2.2
          clear hv
          have c0 : wr.cell? ⟨g, 10, none⟩ = some (.int .u8 y.f0) := (blk_cell HBK.out 10).trans rfl
          have c1 : wr.cell? ⟨g, 10 + 1, none⟩ = some (.int .i64 y.f1) := (blk_cell HBK.out 11).trans rfl
          have c2 : wr.cell? ⟨g, 10 + 2, none⟩ = some (.string y.f2) := (blk_cell HBK.out 12).trans rfl
          have c3 : wr.cell? ⟨g, 10 + 3, none⟩ = some (.slice B y.f3.length d) := (blk_cell HBK.out 13).trans rfl
          have c4 : wr.cell? ⟨g, 10 + 4, none⟩ = some (.int .i64 y.f4) := (blk_cell HBK.out 14).trans rfl
          have d0 : wr.cell? ⟨g, 15, none⟩ = some (.int .u8 x.f0) := (blk_cell HBK.out 15).trans rfl
          have d1 : wr.cell? ⟨g, 15 + 1, none⟩ = some (.int .i64 x.f1) := (blk_cell HBK.out 16).trans rfl
          have d2 : wr.cell? ⟨g, 15 + 2, none⟩ = some (.string x.f2) := (blk_cell HBK.out 17).trans rfl
          have d3 : wr.cell? ⟨g, 15 + 3, none⟩ = some (.slice A x.f3.length c) := (blk_cell HBK.out 18).trans rfl
          have d4 : wr.cell? ⟨g, 15 + 4, none⟩ = some (.int .i64 x.f4) := (blk_cell HBK.out 19).trans rfl
          go_wp2_with fail
          go_region_held3 (fun w' => Ex (fun _ => False) wr w' ∧ w'.cell? ⟨g, 10, none⟩ = some (.int .u8 y.f0) ∧ w'.cell? ⟨g, 10 + 1, none⟩ = some (.int .i64 y.f1) ∧ w'.cell? ⟨g, 10 + 2, none⟩ = some (.string y.f2) ∧ w'.cell? ⟨g, 10 + 3, none⟩ = some (.slice B y.f3.length d) ∧ w'.cell? ⟨g, 10 + 4, none⟩ = some (.int .i64 y.f4) ∧ w'.cell? ⟨g, 15, none⟩ = some (.int .u8 x.f0) ∧ w'.cell? ⟨g, 15 + 1, none⟩ = some (.int .i64 x.f1) ∧ w'.cell? ⟨g, 15 + 2, none⟩ = some (.string x.f2) ∧ w'.cell? ⟨g, 15 + 3, none⟩ = some (.slice A x.f3.length c) ∧ w'.cell? ⟨g, 15 + 4, none⟩ = some (.int .i64 x.f4)) ((first | exact HS.out _ (Ex.drew (Ex.refl _ _)) | exact HS.out _ (by assumption))) (first | (go_at_call 9; refine (compare_calls y x B A d c _ (fun k => k < w.heap.size) (Kd.F_drew HFY.out) (Kd.F_drew HFX.out)).mono ?_; rintro e w1 ⟨rfl, hx1⟩; have hx1 := Ex.trans (Ex.drew (Ex.refl (fun _ => False) _)) hx1 (fun _ h => h.elim)))
          obtain ⟨hcq, hfq⟩ := hx1.cells
          rw [HV.out]
          go_wp2_with fail
          refine (refmay_calls y B d _ hd (Kd.F_now (ex_F hx1 HFY.out (fun _ _ h => h))) hy).mono ?_
          rintro e w2 ⟨rfl, hb2⟩
          have hx2 := Ex.then_below hx1 hb2
          clear hcq hfq
          obtain ⟨hcq, hfq⟩ := hx2.cells
          clear hb2 hx1
          rw [HMA.out]
          go_wp2_with fail
          refine (refmay_calls x A c _ hc (Kd.F_now (ex_F hx2 HFX.out (fun _ _ h => h))) hx).mono ?_
          rintro e w3 ⟨rfl, hb3⟩
          have hx3 := Ex.then_below hx2 hb3
          clear hcq hfq
          obtain ⟨hcq, hfq⟩ := hx3.cells
          clear hb3 hx2
          rw [HMB.out]
          have hx3b := hx3
          go_wp2_with fail
          have HS3 : Aside0 (∀ w', Ex (fun _ => False) wr w' → Ex (fun _ => False) wr w' ∧ w'.cell? ⟨g, 10, none⟩ = some (.int .u8 y.f0) ∧ w'.cell? ⟨g, 10 + 1, none⟩ = some (.int .i64 y.f1) ∧ w'.cell? ⟨g, 10 + 2, none⟩ = some (.string y.f2) ∧ w'.cell? ⟨g, 10 + 3, none⟩ = some (.slice B y.f3.length d) ∧ w'.cell? ⟨g, 10 + 4, none⟩ = some (.int .i64 y.f4) ∧ w'.cell? ⟨g, 15, none⟩ = some (.int .u8 x.f0) ∧ w'.cell? ⟨g, 15 + 1, none⟩ = some (.int .i64 x.f1) ∧ w'.cell? ⟨g, 15 + 2, none⟩ = some (.string x.f2) ∧ w'.cell? ⟨g, 15 + 3, none⟩ = some (.slice A x.f3.length c) ∧ w'.cell? ⟨g, 15 + 4, none⟩ = some (.int .i64 x.f4)) := HS
          go_region_held3 (fun w' => Ex (fun _ => False) wr w' ∧ w'.cell? ⟨g, 10, none⟩ = some (.int .u8 y.f0) ∧ w'.cell? ⟨g, 10 + 1, none⟩ = some (.int .i64 y.f1) ∧ w'.cell? ⟨g, 10 + 2, none⟩ = some (.string y.f2) ∧ w'.cell? ⟨g, 10 + 3, none⟩ = some (.slice B y.f3.length d) ∧ w'.cell? ⟨g, 10 + 4, none⟩ = some (.int .i64 y.f4) ∧ w'.cell? ⟨g, 15, none⟩ = some (.int .u8 x.f0) ∧ w'.cell? ⟨g, 15 + 1, none⟩ = some (.int .i64 x.f1) ∧ w'.cell? ⟨g, 15 + 2, none⟩ = some (.string x.f2) ∧ w'.cell? ⟨g, 15 + 3, none⟩ = some (.slice A x.f3.length c) ∧ w'.cell? ⟨g, 15 + 4, none⟩ = some (.int .i64 x.f4)) ((first | exact HS.out _ (Ex.drew hx3) | exact HS.out _ (by assumption))) (first | (go_at_call 11; refine (refcompare_calls y x B A d c _ hd (Kd.F_now (Kd.F_drew (ex_F hx3b HFY.out (fun _ _ h => h)))) hc (Kd.F_now (Kd.F_drew (ex_F hx3b HFX.out (fun _ _ h => h)))) HMA.out HMB.out).mono ?_; rintro e w4 ⟨rfl, hb4⟩; have hx4 := Ex.then_below (Ex.drew hx3b) hb4))
          go_wp2_with fail
          go_roundg (gk - 1)
          case measure => have := HK.out; omega
          case rel => exact ⟨2, by go_num, ⟨by have := HK.out; omega⟩, ⟨HR.out.trans hx4 (fun _ h => h.elim)⟩⟩
    · skip
      have HBK := Aside0.mk hblk
      clear hblk h3
      have HS : Aside0 (∀ w', Ex (fun _ => False) wr w' → Ex (fun _ => False) wr w' ∧ w'.cell? ⟨g, 20, none⟩ = some (.int .u8 x.f0) ∧ w'.cell? ⟨g, 20 + 1, none⟩ = some (.int .i64 x.f1) ∧ w'.cell? ⟨g, 20 + 2, none⟩ = some (.string x.f2) ∧ w'.cell? ⟨g, 20 + 3, none⟩ = some (.slice A x.f3.length c) ∧ w'.cell? ⟨g, 20 + 4, none⟩ = some (.int .i64 x.f4) ∧ w'.cell? ⟨g, 25, none⟩ = some (.int .u8 x.f0) ∧ w'.cell? ⟨g, 25 + 1, none⟩ = some (.int .i64 x.f1) ∧ w'.cell? ⟨g, 25 + 2, none⟩ = some (.string x.f2) ∧ w'.cell? ⟨g, 25 + 3, none⟩ = some (.slice A x.f3.length c) ∧ w'.cell? ⟨g, 25 + 4, none⟩ = some (.int .i64 x.f4)) := ⟨fun w' h => ⟨h, (blk_cell (h.blk HBK.out (fun h => h)) 20).trans rfl, (blk_cell (h.blk HBK.out (fun h => h)) 21).trans rfl, (blk_cell (h.blk HBK.out (fun h => h)) 22).trans rfl, (blk_cell (h.blk HBK.out (fun h => h)) 23).trans rfl, (blk_cell (h.blk HBK.out (fun h => h)) 24).trans rfl, (blk_cell (h.blk HBK.out (fun h => h)) 25).trans rfl, (blk_cell (h.blk HBK.out (fun h => h)) 26).trans rfl, (blk_cell (h.blk HBK.out (fun h => h)) 27).trans rfl, (blk_cell (h.blk HBK.out (fun h => h)) 28).trans rfl, (blk_cell (h.blk HBK.out (fun h => h)) 29).trans rfl⟩⟩
      have hlt := lt_of_blk HBK.out
      have HFX := Aside0.mk (ex_F HR.out HFX3.out (fun _ _ h => h))
      have HFY := Aside0.mk (ex_F HR.out HFY3.out (fun _ _ h => h))
      cases hma : mayV x with
      | false =>
        have HMA := Aside0.mk hma
        have HMB := Aside0.mk hma
        clear hma
        have hv := cmp_no (x := x) (y := x) (by simp [HMA.out, HMB.out])
        have HV := Aside0.mk hv
        clear hv
        have c0 : wr.cell? ⟨g, 20, none⟩ = some (.int .u8 x.f0) := (blk_cell HBK.out 20).trans rfl
        have c1 : wr.cell? ⟨g, 20 + 1, none⟩ = some (.int .i64 x.f1) := (blk_cell HBK.out 21).trans rfl
        have c2 : wr.cell? ⟨g, 20 + 2, none⟩ = some (.string x.f2) := (blk_cell HBK.out 22).trans rfl
        have c3 : wr.cell? ⟨g, 20 + 3, none⟩ = some (.slice A x.f3.length c) := (blk_cell HBK.out 23).trans rfl
        have c4 : wr.cell? ⟨g, 20 + 4, none⟩ = some (.int .i64 x.f4) := (blk_cell HBK.out 24).trans rfl
        have d0 : wr.cell? ⟨g, 25, none⟩ = some (.int .u8 x.f0) := (blk_cell HBK.out 25).trans rfl
        have d1 : wr.cell? ⟨g, 25 + 1, none⟩ = some (.int .i64 x.f1) := (blk_cell HBK.out 26).trans rfl
        have d2 : wr.cell? ⟨g, 25 + 2, none⟩ = some (.string x.f2) := (blk_cell HBK.out 27).trans rfl
        have d3 : wr.cell? ⟨g, 25 + 3, none⟩ = some (.slice A x.f3.length c) := (blk_cell HBK.out 28).trans rfl
        have d4 : wr.cell? ⟨g, 25 + 4, none⟩ = some (.int .i64 x.f4) := (blk_cell HBK.out 29).trans rfl
        go_wp2_with fail
        go_region_held3 (fun w' => Ex (fun _ => False) wr w' ∧ w'.cell? ⟨g, 20, none⟩ = some (.int .u8 x.f0) ∧ w'.cell? ⟨g, 20 + 1, none⟩ = some (.int .i64 x.f1) ∧ w'.cell? ⟨g, 20 + 2, none⟩ = some (.string x.f2) ∧ w'.cell? ⟨g, 20 + 3, none⟩ = some (.slice A x.f3.length c) ∧ w'.cell? ⟨g, 20 + 4, none⟩ = some (.int .i64 x.f4) ∧ w'.cell? ⟨g, 25, none⟩ = some (.int .u8 x.f0) ∧ w'.cell? ⟨g, 25 + 1, none⟩ = some (.int .i64 x.f1) ∧ w'.cell? ⟨g, 25 + 2, none⟩ = some (.string x.f2) ∧ w'.cell? ⟨g, 25 + 3, none⟩ = some (.slice A x.f3.length c) ∧ w'.cell? ⟨g, 25 + 4, none⟩ = some (.int .i64 x.f4)) ((first | exact HS.out _ (Ex.drew (Ex.refl _ _)) | exact HS.out _ (by assumption))) (first | (go_at_call 9; refine (compare_calls x x A A c c _ (fun k => k < w.heap.size) (Kd.F_drew HFX.out) (Kd.F_drew HFX.out)).mono ?_; rintro e w1 ⟨rfl, hx1⟩; have hx1 := Ex.trans (Ex.drew (Ex.refl (fun _ => False) _)) hx1 (fun _ h => h.elim)))
        obtain ⟨hcq, hfq⟩ := hx1.cells
        rw [HV.out.1, HV.out.2]
        go_wp2_with fail
        refine (refmay_calls x A c _ hc (Kd.F_now (ex_F hx1 HFX.out (fun _ _ h => h))) hx).mono ?_
        rintro e w2 ⟨rfl, hb2⟩
        have hx2 := Ex.then_below hx1 hb2
        clear hcq hfq
        obtain ⟨hcq, hfq⟩ := hx2.cells
        clear hb2 hx1
        rw [HMA.out]
        go_wp2_with fail
        go_roundg (gk - 1)
        case measure => have := HK.out; omega
        case rel => exact ⟨3, by go_num, ⟨by have := HK.out; omega⟩, ⟨HR.out.trans hx2 (fun _ h => h.elim)⟩⟩
      | true =>
        have HMA := Aside0.mk hma
        have HMB := Aside0.mk hma
        clear hma
        have hv := cmp_yes (x := x) (y := x) HMA.out HMB.out
        have HV := Aside0.mk hv.1
        have hv1 := hv.2.1
        have hv2 := hv.2.2
        clear hv
        have c0 : wr.cell? ⟨g, 20, none⟩ = some (.int .u8 x.f0) := (blk_cell HBK.out 20).trans rfl
        have c1 : wr.cell? ⟨g, 20 + 1, none⟩ = some (.int .i64 x.f1) := (blk_cell HBK.out 21).trans rfl
        have c2 : wr.cell? ⟨g, 20 + 2, none⟩ = some (.string x.f2) := (blk_cell HBK.out 22).trans rfl
        have c3 : wr.cell? ⟨g, 20 + 3, none⟩ = some (.slice A x.f3.length c) := (blk_cell HBK.out 23).trans rfl
        have c4 : wr.cell? ⟨g, 20 + 4, none⟩ = some (.int .i64 x.f4) := (blk_cell HBK.out 24).trans rfl
        have d0 : wr.cell? ⟨g, 25, none⟩ = some (.int .u8 x.f0) := (blk_cell HBK.out 25).trans rfl
        have d1 : wr.cell? ⟨g, 25 + 1, none⟩ = some (.int .i64 x.f1) := (blk_cell HBK.out 26).trans rfl
        have d2 : wr.cell? ⟨g, 25 + 2, none⟩ = some (.string x.f2) := (blk_cell HBK.out 27).trans rfl
        have d3 : wr.cell? ⟨g, 25 + 3, none⟩ = some (.slice A x.f3.length c) := (blk_cell HBK.out 28).trans rfl
        have d4 : wr.cell? ⟨g, 25 + 4, none⟩ = some (.int .i64 x.f4) := (blk_cell HBK.out 29).trans rfl
        go_wp2_with fail
        go_region_held3 (fun w' => Ex (fun _ => False) wr w' ∧ w'.cell? ⟨g, 20, none⟩ = some (.int .u8 x.f0) ∧ w'.cell? ⟨g, 20 + 1, none⟩ = some (.int .i64 x.f1) ∧ w'.cell? ⟨g, 20 + 2, none⟩ = some (.string x.f2) ∧ w'.cell? ⟨g, 20 + 3, none⟩ = some (.slice A x.f3.length c) ∧ w'.cell? ⟨g, 20 + 4, none⟩ = some (.int .i64 x.f4) ∧ w'.cell? ⟨g, 25, none⟩ = some (.int .u8 x.f0) ∧ w'.cell? ⟨g, 25 + 1, none⟩ = some (.int .i64 x.f1) ∧ w'.cell? ⟨g, 25 + 2, none⟩ = some (.string x.f2) ∧ w'.cell? ⟨g, 25 + 3, none⟩ = some (.slice A x.f3.length c) ∧ w'.cell? ⟨g, 25 + 4, none⟩ = some (.int .i64 x.f4)) ((first | exact HS.out _ (Ex.drew (Ex.refl _ _)) | exact HS.out _ (by assumption))) (first | (go_at_call 9; refine (compare_calls x x A A c c _ (fun k => k < w.heap.size) (Kd.F_drew HFX.out) (Kd.F_drew HFX.out)).mono ?_; rintro e w1 ⟨rfl, hx1⟩; have hx1 := Ex.trans (Ex.drew (Ex.refl (fun _ => False) _)) hx1 (fun _ h => h.elim)))
        obtain ⟨hcq, hfq⟩ := hx1.cells
        rw [HV.out]
        go_wp2_with fail
        refine (refmay_calls x A c _ hc (Kd.F_now (ex_F hx1 HFX.out (fun _ _ h => h))) hx).mono ?_
        rintro e w2 ⟨rfl, hb2⟩
        have hx2 := Ex.then_below hx1 hb2
        clear hcq hfq
        obtain ⟨hcq, hfq⟩ := hx2.cells
        clear hb2 hx1
        rw [HMA.out]
        go_wp2_with fail
        refine (refmay_calls x A c _ hc (Kd.F_now (ex_F hx2 HFX.out (fun _ _ h => h))) hx).mono ?_
        rintro e w3 ⟨rfl, hb3⟩
        have hx3 := Ex.then_below hx2 hb3
        clear hcq hfq
        obtain ⟨hcq, hfq⟩ := hx3.cells
        clear hb3 hx2
        rw [HMB.out]
        have hx3b := hx3
        go_wp2_with fail
        have HS3 : Aside0 (∀ w', Ex (fun _ => False) wr w' → Ex (fun _ => False) wr w' ∧ w'.cell? ⟨g, 20, none⟩ = some (.int .u8 x.f0) ∧ w'.cell? ⟨g, 20 + 1, none⟩ = some (.int .i64 x.f1) ∧ w'.cell? ⟨g, 20 + 2, none⟩ = some (.string x.f2) ∧ w'.cell? ⟨g, 20 + 3, none⟩ = some (.slice A x.f3.length c) ∧ w'.cell? ⟨g, 20 + 4, none⟩ = some (.int .i64 x.f4) ∧ w'.cell? ⟨g, 25, none⟩ = some (.int .u8 x.f0) ∧ w'.cell? ⟨g, 25 + 1, none⟩ = some (.int .i64 x.f1) ∧ w'.cell? ⟨g, 25 + 2, none⟩ = some (.string x.f2) ∧ w'.cell? ⟨g, 25 + 3, none⟩ = some (.slice A x.f3.length c) ∧ w'.cell? ⟨g, 25 + 4, none⟩ = some (.int .i64 x.f4)) := HS
        go_region_held3 (fun w' => Ex (fun _ => False) wr w' ∧ w'.cell? ⟨g, 20, none⟩ = some (.int .u8 x.f0) ∧ w'.cell? ⟨g, 20 + 1, none⟩ = some (.int .i64 x.f1) ∧ w'.cell? ⟨g, 20 + 2, none⟩ = some (.string x.f2) ∧ w'.cell? ⟨g, 20 + 3, none⟩ = some (.slice A x.f3.length c) ∧ w'.cell? ⟨g, 20 + 4, none⟩ = some (.int .i64 x.f4) ∧ w'.cell? ⟨g, 25, none⟩ = some (.int .u8 x.f0) ∧ w'.cell? ⟨g, 25 + 1, none⟩ = some (.int .i64 x.f1) ∧ w'.cell? ⟨g, 25 + 2, none⟩ = some (.string x.f2) ∧ w'.cell? ⟨g, 25 + 3, none⟩ = some (.slice A x.f3.length c) ∧ w'.cell? ⟨g, 25 + 4, none⟩ = some (.int .i64 x.f4)) ((first | exact HS.out _ (Ex.drew hx3) | exact HS.out _ (by assumption))) (first | (go_at_call 11; refine (refcompare_calls x x A A c c _ hc (Kd.F_now (Kd.F_drew (ex_F hx3b HFX.out (fun _ _ h => h)))) hc (Kd.F_now (Kd.F_drew (ex_F hx3b HFX.out (fun _ _ h => h)))) HMA.out HMB.out).mono ?_; rintro e w4 ⟨rfl, hb4⟩; have hx4 := Ex.then_below (Ex.drew hx3b) hb4))
        go_wp2_with fail
        go_roundg (gk - 1)
        case measure => have := HK.out; omega
        case rel => exact ⟨3, by go_num, ⟨by have := HK.out; omega⟩, ⟨HR.out.trans hx4 (fun _ h => h.elim)⟩⟩
end Go.Proofs.Ythkemcekcfccpaa.PBrandCompares

namespace Go.Proofs.Ythkemcekcfccpaa.brandCompares
open Go.ChangeShapes Go.WideShapes Go.ChangeAt Go.RowKit Go.Proofs.Ythkemcekcfccpaa.GBrandCompares
open Go.ChangeMaps (open_string shut_string)
set_option linter.unusedVariables false
theorem own : ownKnob Try.prog.godebug = none := by kernel_rfl
theorem laidOut : laidOutB Try.prog = true := by kernel_rfl
set_option maxRecDepth 100000 in
theorem lifted (os : Os) (started : os.Started) (H : Type) (enc : TypeId × Value → H) :
    ReturnsInHanded {} Try.checked os 4 .any (Rows.brandComparesSpec.pre6 enc Try.prog Try.f4 Rows.brandComparesRow.domain false) (Rows.brandComparesSpec.post enc Try.prog Try.f4 false true false false) := by
  refine returnsInHanded_of_change_sized (C := Try.checked) own started (by kernel_rfl) Try.func4
    (ChangeSpec.witness6 (enc := enc) (C := Try.checked) false ⟨#[], #[.agg #[.int .u8 0, .int .i64 0, .string ByteArray.empty, .slice none 0 0, .int .i64 0], .agg #[.int .u8 0, .int .i64 0, .string ByteArray.empty, .slice none 0 0, .int .i64 0]], []⟩ 8 (by kernel_rfl) (by kernel_rfl) (by kernel_rfl) (by kernel_rfl)) ?_
  intro W base args ds gs before hval0 hW hcnd hsz0 _
  have hval : ∀ (j : Nat) t v, Try.f4.params[j]? = some t → args[j]? = some v → Value.okWide Try.prog W .any base t v := hval0
  have hW' := hW
  obtain ⟨p, q, hA0, hV, rfl, hfz, hnd⟩ := hW
  have hA : DataW.TrodAll enc Try.prog W 0 (fun _ => true) true Try.f4.params.toList args.toList ds p := hA0
  rw [Try.params4] at hA hval
  obtain ⟨v0, vs0, d0, ds0, p0, q0, hargs, rfl, rfl, h0, r0⟩ := trodAll_cons hA
  obtain ⟨v1, vs1, d1, ds1, p1, q1, rfl, rfl, rfl, h1, r1⟩ := trodAll_cons r0
  obtain ⟨rfl, rfl, rfl⟩ := trodAll_nil r1
  obtain rfl : args = #[v0, v1] := by cases args; simp_all
  obtain ⟨rfl, rfl⟩ := trodVars_none hV
  have k0 := h0
  have k1 := h1
  have lt0 : ∀ x ∈ p0, x.block < W.heap.size := by obtain ⟨m, hm⟩ := k0; exact DataW.trod_lt m _ _ _ hm
  have lt1 : ∀ x ∈ p1, x.block < W.heap.size := by obtain ⟨m, hm⟩ := k1; exact DataW.trod_lt m _ _ _ hm
  obtain ⟨x, A, c, rfl, hc, hC, hx⟩ := PBrandCompares.open_value (hval 0 27 v0 rfl rfl) h0
  obtain ⟨y, B, d, rfl, hd, hD, hy⟩ := PBrandCompares.open_value (hval 1 27 v1 rfl rfl) h1
  clear hA0 hval0 hsz0
  refine (PBrandCompares.compares_walk x y A B c d W hc hd (PBrandCompares.all_F hC) (PBrandCompares.all_F hD) hx hy).mono fun e W' ⟨he, hex⟩ => ?_
  have bel : Below W.heap.size W W' := hex.below (Nat.le_refl _) (fun _ h => h.elim)
  subst he
  exact ⟨_, rfl, _, _, _, [], _, [], hW', trodAll_mk1 (shut_bool Try.underlying4 _), trodAll_cons_mk (Below.trod laidOut (by kernel_rfl) (of_decide_eq_true (by kernel_rfl)) k0 bel lt0) (trodAll_cons_mk (Below.trod laidOut (by kernel_rfl) (of_decide_eq_true (by kernel_rfl)) k1 bel lt1) trodAll_mk0), rfl, bel.frame _, fun h => by cases h⟩
theorem over : Rows.brandComparesRow.holds Try.pinned (OpenSpec.ofChange Rows.brandComparesSpec) :=
  OpenClaim.holds_of_wide 4 Try.f4 rfl rfl rfl rfl rfl rfl rfl ⟨rfl, rfl, rfl, rfl, rfl⟩ rfl rfl rfl rfl rfl (by kernel_rfl) Try.func4 (by kernel_rfl)
    (of_decide_eq_true (by kernel_rfl)) (by unfold Func.isWrapper; first | (rw [if_pos (by decide +kernel)]; kernel_rfl) | (rw [if_neg (by decide +kernel)]; exact ⟨rfl, rfl⟩))
    (fun os started H enc _ => lifted os started H enc)
theorem proved : Rows.BrandComparesSaid := over
end Go.Proofs.Ythkemcekcfccpaa.brandCompares
