/- 'Own' of package value, 'own' of package brand: at a value that May admits, the same in memory of its own. -/
import Derived.Test.YthkemcekcfccpaaBrandComparesO1
import Derived.Test.YthkemcekcfccpaaBrandComparesH4
import Derived.Test.YthkemcekcfccpaaBrandComparesG2
namespace Go.Proofs.Ythkemcekcfccpaa.PBrandCompares
open Go.RowKit Go.Proofs.YthkemcekcfccpaaW.PrintWords Go.Proofs.YthkemcekcfccpaaW.PrintLast Go.Proofs.YthkemcekcfccpaaW.PrintMore
open Go.Proofs.Ythkemcekcfccpaa.GBrandCompares
set_option linter.unusedVariables false
set_option linter.unusedSimpArgs false

theorem size27 : (Try.prog.info? 27).map (·.size) = some 5 := by kernel_rfl
/-- a value's own struct written over, field by field -/
theorem put27 {w : World} {g : Nat} {cs : Array Value} (h : w.heap[g]? = some (.cells cs 27 (0, 0))) (hs : cs.size = 5) (a b c d e : Value) :
    (((((w.setCell ⟨g, 0, none⟩ a).setCell ⟨g, 1, none⟩ b).setCell ⟨g, 2, none⟩ c).setCell ⟨g, 3, none⟩ d).setCell ⟨g, 4, none⟩ e).heap[g]? = some (.cells #[a, b, c, d, e] 27 (0, 0)) := by
  obtain ⟨l⟩ := cs
  match l, hs with
  | [_, _, _, _, _], _ => exact blk_put (blk_put (blk_put (blk_put (blk_put h 0 _ rfl) 1 _ rfl) 2 _ rfl) 3 _ rfl) 4 _ rfl
theorem ex_put27 {S : Nat → Prop} {w0 w : World} {g : Nat} (h : Ex S w0 w) (hg : S g ∨ w0.heap.size ≤ g) (a b c d e : Value) :
    Ex S w0 (((((w.setCell ⟨g, 0, none⟩ a).setCell ⟨g, 1, none⟩ b).setCell ⟨g, 2, none⟩ c).setCell ⟨g, 3, none⟩ d).setCell ⟨g, 4, none⟩ e) :=
  ((((h.set (p := ⟨g, 0, none⟩) hg a).set (p := ⟨g, 1, none⟩) hg b).set (p := ⟨g, 2, none⟩) hg c).set (p := ⟨g, 3, none⟩) hg d).set (p := ⟨g, 4, none⟩) hg e

/-- what such a call answers: the value, of memory of its own -/
def Owned (x : S27) (w : World) (v : Value) (w' : World) : Prop :=
  ∃ (A : Option Addr) (c : Nat), v = .agg #[.int .u8 x.f0, .int .i64 x.f1, .string x.f2, .slice A x.f3.length c, .int .i64 x.f4] ∧ x.f3.length ≤ c ∧ Kd.R k27 27 w' w.heap.size (fun k => w.heap.size ≤ k) (.slice A x.f3.length c) x.f3 ∧ Ex (fun _ => False) w w'

theorem vown_calls (x : S27) (A : Option Addr) (c : Nat) (w : World) (ok : Nat → Prop) (hc : x.f3.length ≤ c) (hF : Kd.F k27 w ok A x.f3.length x.f3) (hm : mayV x = true) :
    Calls Try.prog 56 #[.agg #[.int .u8 x.f0, .int .i64 x.f1, .string x.f2, .slice A x.f3.length c, .int .i64 x.f4]] w fun e w' => ∃ v, e = .returned v ∧ Owned x w v w' := by
  obtain ⟨K, hK⟩ := own_pure 16
  refine (value_own.calls K x.f0 x.f1 x.f2 ok A c x.f3 x.f4 _ _ _ _ _ w (Kd.V_mk hc hF) (hK x (may_small hm))).mono ?_
  rintro e w1 ⟨v3, rfl, hR, hB⟩
  obtain ⟨A3, c3, rfl, l3, _⟩ := Kd.R_reads hR
  exact ⟨_, rfl, A3, c3, rfl, l3, hR, Ex.of_below hB⟩

set_option maxHeartbeats 400000 in
/-- value.Own -/
theorem Own_calls (x : S27) (A : Option Addr) (c : Nat) (w : World) (ok : Nat → Prop) (hc : x.f3.length ≤ c) (hF : Kd.F k27 w ok A x.f3.length x.f3) (hm : mayV x = true) :
    Calls Try.prog 53 #[.agg #[.int .u8 x.f0, .int .i64 x.f1, .string x.f2, .slice A x.f3.length c, .int .i64 x.f4]] w fun e w' => ∃ v, e = .returned (.tuple #[v, .int .i64 0]) ∧ Owned x w v w' := by
  have HF := Aside0.mk hF
  have HM := Aside0.mk hm
  have HC := Aside0.mk hc
  clear hF hm hc
  go_enter Try.func53, Try.ntmps53
  go_wp2_with fail
  refine (may_calls x A c _ ok (Kd.F_alloc (Kd.F_alloc HF.out _) _)).mono ?_
  rintro e w1 ⟨rfl, hx1⟩
  have hm' := HM.out
  rw [hm']
  clear hm'
  obtain ⟨hc, hf⟩ := hx1.cells
  have HF1 := Aside0.mk (ex_F hx1 (Kd.F_alloc (Kd.F_alloc HF.out _) _) (fun _ _ h => h))
  have HB1 := Aside0.mk (hx1.blk (blk_new2 w _ _) (fun h => h))
  have HX1 := Aside0.mk ((((Ex.refl (fun _ => False) w).alloc _).alloc _).trans hx1 (fun _ h => h.elim))
  clear hx1
  go_wp2_with fail
  refine (vown_calls x A c _ ok HC.out HF1.out HM.out).mono ?_
  rintro e w2 ⟨v, rfl, A3, c3, rfl, l3, hR, hx2⟩
  have HB2 := Aside0.mk (hx2.blk HB1.out (fun h => h))
  have h0 := (blk_cell HB2.out 0).trans rfl
  have h1 := (blk_cell HB2.out 1).trans rfl
  have h2 := (blk_cell HB2.out 2).trans rfl
  have h3 := (blk_cell HB2.out 3).trans rfl
  have h4 := (blk_cell HB2.out 4).trans rfl
  have f0 := blk_frozen HB2.out 0
  have f1 := blk_frozen HB2.out 1
  have f2 := blk_frozen HB2.out 2
  have f3 := blk_frozen HB2.out 3
  have f4 := blk_frozen HB2.out 4
  have hl2 := lt_of_blk HB2.out
  have HH := Aside0.mk (And.intro l3 (And.intro hR (HX1.out.trans hx2 (fun _ h => h.elim))))
  clear l3 hR hx2 hc hf
  go_wp2_with fail
  refine bodyPost_ret (results_row_tmp rfl _ _ (w.heap.size + 1) 27 _ (0, 0) _ rfl (put27 HB2.out rfl _ _ _ _ _) Try.underlying27 rfl size27) rfl ?_
  refine ⟨_, rfl, A3, c3, rfl, HH.out.1, ?_, ?_⟩
  · have hR := Kd.R_lower (Kd.R_mono (Kd.R_bound HH.out.2.1) (fun k hk => (show w.heap.size ≤ k ∧ k ≠ w.heap.size + 1 by have := hk.1; have := HX1.out.size; have := lt_of_blk HB1.out; omega))) HX1.out.size
    refine Kd.R_mono (Kd.R_step hR ?_) (fun k hk => hk.1)
    intro k hk hlt
    exact (ex_put27 (Ex.refl (fun b => b = w.heap.size + 1) _) (.inl rfl) _ _ _ _ _).block k hlt hk.2
  · exact ex_put27 HH.out.2.2 (.inr (Nat.le_succ _)) _ _ _ _ _

set_option maxHeartbeats 400000 in
/-- brand.own -/
theorem own_calls (x : S27) (A : Option Addr) (c : Nat) (w : World) (ok : Nat → Prop) (hc : x.f3.length ≤ c) (hF : Kd.F k27 w ok A x.f3.length x.f3) (hm : mayV x = true) :
    Calls Try.prog 40 #[.agg #[.int .u8 x.f0, .int .i64 x.f1, .string x.f2, .slice A x.f3.length c, .int .i64 x.f4]] w fun e w' => ∃ v, e = .returned v ∧ Owned x w v w' := by
  have HF := Aside0.mk hF
  have HM := Aside0.mk hm
  have HC := Aside0.mk hc
  clear hF hm hc
  go_enter Try.func40, Try.ntmps40
  go_wp2_with fail
  refine (Own_calls x A c _ ok HC.out (Kd.F_alloc (Kd.F_alloc HF.out _) _) HM.out).mono ?_
  rintro e w1 ⟨v, rfl, A3, c3, rfl, l3, hR, hx1⟩
  have HB1 := Aside0.mk (hx1.blk (blk_new2 w _ _) (fun h => h))
  have HX1 := Aside0.mk ((((Ex.refl (fun _ => False) w).alloc _).alloc _).trans hx1 (fun _ h => h.elim))
  have h0 := (blk_cell HB1.out 0).trans rfl
  have h1 := (blk_cell HB1.out 1).trans rfl
  have h2 := (blk_cell HB1.out 2).trans rfl
  have h3 := (blk_cell HB1.out 3).trans rfl
  have h4 := (blk_cell HB1.out 4).trans rfl
  have f0 := blk_frozen HB1.out 0
  have f1 := blk_frozen HB1.out 1
  have f2 := blk_frozen HB1.out 2
  have f3 := blk_frozen HB1.out 3
  have f4 := blk_frozen HB1.out 4
  have hl1 := lt_of_blk HB1.out
  have HH := Aside0.mk (And.intro l3 hR)
  clear l3 hR hx1
  go_wp2_with fail
  refine bodyPost_ret (results_cell_row rfl _ _ (w.heap.size + 1) 27 _ (0, 0) _ rfl (blk_alloc (put27 HB1.out rfl _ _ _ _ _) _) Try.underlying27 rfl size27) rfl ?_
  refine ⟨_, rfl, A3, c3, rfl, HH.out.1, ?_, ?_⟩
  · have hR := Kd.R_lower (Kd.R_mono (Kd.R_bound HH.out.2) (fun k hk => (show w.heap.size ≤ k ∧ k ≠ w.heap.size + 1 by have := hk.1; simp at this; omega))) (show w.heap.size ≤ _ by simp; omega)
    refine Kd.R_mono (Kd.R_step hR ?_) (fun k hk => hk.1)
    intro k hk hlt
    exact ((ex_put27 (Ex.refl (fun b => b = w.heap.size + 1) _) (.inl rfl) _ _ _ _ _).alloc _).block k hlt hk.2
  · exact (ex_put27 HX1.out (.inr (Nat.le_succ _)) _ _ _ _ _).alloc _

end Go.Proofs.Ythkemcekcfccpaa.PBrandCompares
