/-
  (*value).own: the contract that print.sh has printed for function 56, turned at one spot: in the loop's round the names of the hypotheses ahead of the loop are cleared first (a later 'cases' would bring them back in front).
  'own' of package value, as a plain function: it comes to the same value wherever May admits it.
  'Own' of package value, 'own' of package brand: at a value that May admits, the same in memory of its own.
  Tables of package brand: what a table's memory says (Tab), and Put.
  Tables: one row more; one row's value turned.
  Put of a table: where it answers an error.
  Put of a table, at a mark that it has.
-/
import Derived.Test.YthkemcekcfccpaaBrandComparesR4M0
import Derived.Test.YthkemcekcfccpaaPBrandComparesx0
import Derived.Deep.RegionLaw
namespace Go.Proofs.Ythkemcekcfccpaa.PBrandCompares
open Go.RowKit Go.Proofs.YthkemcekcfccpaaW.PrintWords Go.Proofs.YthkemcekcfccpaaW.PrintLast Go.Proofs.YthkemcekcfccpaaW.PrintMore
attribute [local go_sem] max2_int min2_int max_two min_two max_three min_three max_four min_four   -- for this text's walks alone
set_option linter.unusedVariables false
set_option linter.unusedSimpArgs false

-- NOT PRINTED: function 55 (value_left_take)

-- NOT PRINTED: function 52 (value_measure)

-- NOT PRINTED: function 38 (value_May)

-- NOT PRINTED: function 41 (brand_mark)

-- NOT PRINTED: function 18 (brand_Of)

-- NOT PRINTED: function 30 (brand_met)

-- NOT PRINTED: function 9 (brand_Compare)

-- NOT PRINTED: function 14 (brand_New)

-- NOT PRINTED: function 37 (brand_Table_none)

-- NOT PRINTED: function 36 (brand_key)

-- NOT PRINTED: function 39 (brand_Table_find)

/-! ### value_own: function 56 -/
mutual
def value_own.l0 : Nat → List (S27) → List (S27) → Int → Int → Int → Int → ByteArray → List (S27) → Int → Option (Int × Int × ByteArray × (List (S27)) × Int)
  | 0, _, _, _, _, _, _, _, _, _ => none
  | k + 1, x3, x17, x18, x19, x114000, x114001, x114002, x114003, x114004 => if x19 < x18 then (if 0 ≤ x19 then (if x19 < (x17.length : Int) then ((value_own.f k ((rd_T27 x17 x19).f0) ((rd_T27 x17 x19).f1) ((rd_T27 x17 x19).f2) ((rd_T27 x17 x19).f3) ((rd_T27 x17 x19).f4)).bind fun bt120 => (if x19 < (x3.length : Int) then (value_own.l0 k (x3.set (x19 : Int).toNat (⟨bt120.1, bt120.2.1, bt120.2.2.1, bt120.2.2.2.1, bt120.2.2.2.2⟩ : S27)) x17 x18 (wrap64 (x19 + 1)) x114000 x114001 x114002 x114003 x114004) else (none))) else (none)) else (none)) else (some (x114000, x114001, x114002, x3, x114004))
def value_own.f : Nat → Int → Int → ByteArray → List (S27) → Int → Option (Int × Int × ByteArray × (List (S27)) × Int)
  | 0, _, _, _, _, _ => none
  | k + 1, a0_0, a0_1, a0_2, l0_3, a0_4 => if (l0_3.length : Int) = 0 then (some (a0_0, a0_1, a0_2, ([] : List (S27)), a0_4)) else (if 0 ≤ (l0_3.length : Int) then (if ((l0_3.length : Int) : Int).toNat ≤ 4398046511104 then (value_own.l0 k (List.replicate ((l0_3.length : Int) : Int).toNat z27) l0_3 (l0_3.length : Int) 0 a0_0 a0_1 a0_2 l0_3 a0_4) else (none)) else (none))
end
theorem value_own.mono_l : ∀ k, (∀ y0 y1 y2 y3 y4, LeO (value_own.f k y0 y1 y2 y3 y4) (value_own.f (k + 1) y0 y1 y2 y3 y4)) ∧ (∀ y0 y1 y2 y3 y4 y5 y6 y7 y8, LeO (value_own.l0 k y0 y1 y2 y3 y4 y5 y6 y7 y8) (value_own.l0 (k + 1) y0 y1 y2 y3 y4 y5 y6 y7 y8))
  | 0 => ⟨fun _ _ _ _ _ r h => by simp [value_own.f] at h, fun _ _ _ _ _ _ _ _ _ r h => by simp [value_own.l0] at h⟩
  | k + 1 => by
    obtain ⟨ih0, ih1⟩ := value_own.mono_l k
    refine ⟨?_, ?_⟩
    · intro y0 y1 y2 y3 y4
      unfold value_own.f
      repeat' first
      | (with_reducible exact ih0 _ _ _ _ _)
      | (with_reducible exact ih1 _ _ _ _ _ _ _ _ _)
      | (with_reducible exact LeO.refl _)
      | (with_reducible exact LeO.none _)
      | (with_reducible refine LeO.ite ?_ ?_)
      | (with_reducible refine LeO.bind ?_ (fun _ => ?_))
      | exact ih0 _ _ _ _ _
      | exact ih1 _ _ _ _ _ _ _ _ _
      | exact LeO.none _
      | refine LeO.ite ?_ ?_
      | refine LeO.bind ?_ (fun _ => ?_)
    · intro y0 y1 y2 y3 y4 y5 y6 y7 y8
      unfold value_own.l0
      repeat' first
      | (with_reducible exact ih0 _ _ _ _ _)
      | (with_reducible exact ih1 _ _ _ _ _ _ _ _ _)
      | (with_reducible exact LeO.refl _)
      | (with_reducible exact LeO.none _)
      | (with_reducible refine LeO.ite ?_ ?_)
      | (with_reducible refine LeO.bind ?_ (fun _ => ?_))
      | exact ih0 _ _ _ _ _
      | exact ih1 _ _ _ _ _ _ _ _ _
      | exact LeO.none _
      | refine LeO.ite ?_ ?_
      | refine LeO.bind ?_ (fun _ => ?_)
theorem value_own.mono : ∀ a0 a1 a2 a3 a4 k, LeO (value_own.f k a0 a1 a2 a3 a4) (value_own.f (k + 1) a0 a1 a2 a3 a4) := by
  intro a0 a1 a2 a3 a4 k
  obtain ⟨ih0, ih1⟩ := value_own.mono_l k
  exact ih0 a0 a1 a2 a3 a4
set_option maxHeartbeats 8000000 in
set_option maxRecDepth 100000 in
theorem value_own.calls (k : Nat) : ∀ (a0_0 : Int) (a0_1 : Int) (a0_2 : ByteArray) (P0_3_ : Nat → Prop) (A0_3 : Option Addr) (c0_3 : Nat) (l0_3 : List (S27)) (a0_4 : Int) (r1 : Int) (r2 : Int) (r3 : ByteArray) (r4 : List (S27)) (r5 : Int) (w : World) (hs0_3 : Kd.V k27 27 w w.heap.size (fun k_ => P0_3_ k_) (.slice A0_3 l0_3.length c0_3) l0_3) (h : value_own.f k a0_0 a0_1 a0_2 l0_3 a0_4 = some (r1, r2, r3, r4, r5)),
    Calls Try.prog 56 #[.agg #[.int .u8 a0_0, .int .i64 a0_1, .string a0_2, .slice A0_3 l0_3.length c0_3, .int .i64 a0_4]] w fun e w' => ∃ v3_ : Value, e = .returned (.agg #[.int .u8 r1, .int .i64 r2, .string r3, v3_, .int .i64 r5]) ∧ Kd.R k27 27 w' w.heap.size (fun k_ => (w.heap.size ≤ k_)) v3_ r4 ∧ Below w.heap.size w w' := by
  induction k using Nat.strongRecOn with
  | _ k ih =>
  intro a0_0 a0_1 a0_2 P0_3_ A0_3 c0_3 l0_3 a0_4 r1 r2 r3 r4 r5 w hs0_3 h
  cases k with
  | zero => exact absurd h (by simp [value_own.f])
  | succ k =>
  simp only [value_own.f] at h
  have hu27 := Try.underlying27
  have HO0_3 := Aside0.mk (show Kd.V k27 27 w w.heap.size (fun k_ => (P0_3_ k_ ∨ w.heap.size ≤ k_)) (.slice A0_3 l0_3.length c0_3) l0_3 from Kd.V_mono hs0_3 (fun k_ hk => .inl hk))
  have HB := Aside0.mk (Below.refl w.heap.size w)
  have H : (if (l0_3.length : Int) = 0 then (some (a0_0, a0_1, a0_2, ([] : List (S27)), a0_4)) else (if 0 ≤ (l0_3.length : Int) then (if ((l0_3.length : Int) : Int).toNat ≤ 4398046511104 then (value_own.l0 k (List.replicate ((l0_3.length : Int) : Int).toNat z27) l0_3 (l0_3.length : Int) 0 a0_0 a0_1 a0_2 l0_3 a0_4) else (none)) else (none))) = some (r1, r2, r3, r4, r5) := h
  clear h
  by_cases c2 : (l0_3.length : Int) = 0
  · rw [if_pos c2] at H
    have c2b0 : ((l0_3.length : Int) == 0) = true := beq_iff_eq.mpr c2
    have c2b1 : ((l0_3.length : Int) != 0) = false := bne_eq_false_iff_eq.mpr c2
    clear c2
    simp only [Option.some.injEq, Prod.mk.injEq] at H
    obtain ⟨rfl, rfl, rfl, rfl, rfl⟩ := H
    go_enter Try.func56, Try.ntmps56
    go_wp2_with (first | ((with_reducible refine gate_dst (N := 1) rfl ?_); refine box_event ?hg (N := 1) ?hd (cs := #[.int .u8 a0_0, .int .i64 a0_1, .string a0_2, .slice A0_3 l0_3.length c0_3, .int .i64 a0_4]) (t := 27) ?hr ?_; (case hd => rfl); (case hg => rfl); (case hr => first | (go_simp; done) | (go_simp; rfl)); intro gb113 hg w3 hbox hb; have n0_ := Aside0.mk (Kd.V_below (Kd.V_elderB (by (with_reducible repeat (first | apply Kd.V_alloc | apply Kd.V_drewN | apply Kd.V_drew)); exact HO0_3.out) gb113 (Nat.le_of_eq hg.symm)) hb); have n1_ := Aside0.mk (below_step (by repeat (first | (with_reducible first | exact HB.out | apply below_alloc | apply pw_below_drewN | apply below_drew1) | exact HB.out)) hb); have n2_ := Aside0.mk (hbox); have n3_ := Aside0.mk ((by rw [hg]; exact (below_size (by repeat (first | (with_reducible first | exact HB.out | apply below_alloc | apply pw_below_drewN | apply below_drew1) | exact HB.out))) : w.heap.size ≤ gb113)); have n4_ := Aside0.mk ((by rw [hg]; exact (below_size (by repeat (first | (with_reducible first | exact HB.out | apply below_alloc | apply pw_below_drewN | apply below_drew1) | exact HB.out))) : w.heap.size ≤ gb113)); clear HO0_3; clear HB; have HO0_3 := n0_; have HB := n1_; have BK113 := n2_; have GW113 := n3_; have GE113 := n4_; clear n0_ n1_ n2_ n3_ n4_; clear hb hbox hg) | ((with_reducible refine gate_dst (N := 2) rfl ?_); refine box_event ?hg (N := 2) ?hd (cs := #[.int .u8 0, .int .i64 0, .string (⟨#[]⟩ : ByteArray), .slice none 0 0, .int .i64 0]) (t := 27) ?hr ?_; (case hd => rfl); (case hg => rfl); (case hr => first | (go_simp; done) | (go_simp; rfl)); intro gb114 hg w4 hbox hb; have n0_ := Aside0.mk (Kd.V_below (Kd.V_elderB (by (with_reducible repeat (first | apply Kd.V_alloc | apply Kd.V_drewN | apply Kd.V_drew)); exact HO0_3.out) gb114 (Nat.le_of_eq hg.symm)) hb); have n1_ := Aside0.mk (blk_below (g := gb113) (o := .cells #[.int .u8 a0_0, .int .i64 a0_1, .string a0_2, .slice A0_3 l0_3.length c0_3, .int .i64 a0_4] 27 (0, 0)) (by (with_reducible repeat (first | refine blk_drewN ?_ _ | refine blk_drew ?_ | refine blk_alloc ?_ _)); exact BK113.out) hb); have n2_ := Aside0.mk (below_step (by repeat (first | (with_reducible first | exact HB.out | apply below_alloc | apply pw_below_drewN | apply below_drew1 | refine below_set ?_ GE113.out) | exact HB.out)) hb); have n3_ := Aside0.mk (hbox); have n4_ := Aside0.mk ((by rw [hg]; exact (below_size (by repeat (first | (with_reducible first | exact HB.out | apply below_alloc | apply pw_below_drewN | apply below_drew1 | refine below_set ?_ GE113.out) | exact HB.out))) : w.heap.size ≤ gb114)); have n5_ := Aside0.mk ((by rw [hg]; exact (below_size (by repeat (first | (with_reducible first | exact HB.out | apply below_alloc | apply pw_below_drewN | apply below_drew1 | refine below_set ?_ GE113.out) | exact HB.out))) : w.heap.size ≤ gb114)); have n6_ := Aside0.mk ((by rw [hg]; exact Nat.ne_of_lt (blk_lt (g := gb113) (o := .cells #[.int .u8 a0_0, .int .i64 a0_1, .string a0_2, .slice A0_3 l0_3.length c0_3, .int .i64 a0_4] 27 (0, 0)) (by (with_reducible repeat (first | refine blk_drewN ?_ _ | refine blk_drew ?_ | refine blk_alloc ?_ _)); exact BK113.out)) : gb113 ≠ gb114)); have n7_ := Aside0.mk ((by rw [hg]; exact Nat.ne_of_gt (blk_lt (g := gb113) (o := .cells #[.int .u8 a0_0, .int .i64 a0_1, .string a0_2, .slice A0_3 l0_3.length c0_3, .int .i64 a0_4] 27 (0, 0)) (by (with_reducible repeat (first | refine blk_drewN ?_ _ | refine blk_drew ?_ | refine blk_alloc ?_ _)); exact BK113.out)) : gb114 ≠ gb113)); clear HO0_3; clear BK113; clear HB; have HO0_3 := n0_; have BK113 := n1_; have HB := n2_; have BK114 := n3_; have GW114 := n4_; have GE114 := n5_; have NB113_114 := n6_; have NB114_113 := n7_; clear n0_ n1_ n2_ n3_ n4_ n5_ n6_ n7_; clear hb hbox hg; have hnb5 := NB113_114.out; have hnc5 := NB114_113.out; have hcz6_0 : w4.cell? ⟨gb113, 0, none⟩ = some (.int .u8 a0_0) := (blk_cell BK113.out 0).trans rfl; have hcz6_1 : w4.cell? ⟨gb113, 1, none⟩ = some (.int .i64 a0_1) := (blk_cell BK113.out 1).trans rfl; have hcz6_2 : w4.cell? ⟨gb113, 2, none⟩ = some (.string a0_2) := (blk_cell BK113.out 2).trans rfl; have hcz6_3 : w4.cell? ⟨gb113, 3, none⟩ = some (.slice A0_3 l0_3.length c0_3) := (blk_cell BK113.out 3).trans rfl; have hcz6_4 : w4.cell? ⟨gb113, 4, none⟩ = some (.int .i64 a0_4) := (blk_cell BK113.out 4).trans rfl; have hfz6_0 := blk_frozen BK113.out 0; have hfz6_1 := blk_frozen BK113.out 1; have hfz6_2 := blk_frozen BK113.out 2; have hfz6_3 := blk_frozen BK113.out 3; have hfz6_4 := blk_frozen BK113.out 4; have hcz7_0 : w4.cell? ⟨gb114, 0, none⟩ = some (.int .u8 0) := (blk_cell BK114.out 0).trans rfl; have hcz7_1 : w4.cell? ⟨gb114, 1, none⟩ = some (.int .i64 0) := (blk_cell BK114.out 1).trans rfl; have hcz7_2 : w4.cell? ⟨gb114, 2, none⟩ = some (.string (⟨#[]⟩ : ByteArray)) := (blk_cell BK114.out 2).trans rfl; have hcz7_3 : w4.cell? ⟨gb114, 3, none⟩ = some (.slice none 0 0) := (blk_cell BK114.out 3).trans rfl; have hcz7_4 : w4.cell? ⟨gb114, 4, none⟩ = some (.int .i64 0) := (blk_cell BK114.out 4).trans rfl; have hfz7_0 := blk_frozen BK114.out 0; have hfz7_1 := blk_frozen BK114.out 1; have hfz7_2 := blk_frozen BK114.out 2; have hfz7_3 := blk_frozen BK114.out 3; have hfz7_4 := blk_frozen BK114.out 4))
    refine bodyPost_ret (results_cell_row rfl _ _ gb114 27 #[.int .u8 a0_0, .int .i64 a0_1, .string a0_2, .slice none 0 0, .int .i64 a0_4] (0, 0) _ rfl (by (with_reducible repeat (first | refine blk_drewN ?_ _ | refine blk_drew ?_ | refine blk_alloc ?_ _)); refine blk_put (cs := #[.int .u8 a0_0, .int .i64 a0_1, .string a0_2, .slice none 0 0, .int .i64 0]) ?_ 4 _ rfl; (with_reducible repeat (first | refine blk_drewN ?_ _ | refine blk_drew ?_ | refine blk_alloc ?_ _)); refine blk_put (cs := #[.int .u8 a0_0, .int .i64 a0_1, .string a0_2, .slice none 0 0, .int .i64 0]) ?_ 3 _ rfl; (with_reducible repeat (first | refine blk_drewN ?_ _ | refine blk_drew ?_ | refine blk_alloc ?_ _)); refine blk_put (cs := #[.int .u8 a0_0, .int .i64 a0_1, .string (⟨#[]⟩ : ByteArray), .slice none 0 0, .int .i64 0]) ?_ 2 _ rfl; (with_reducible repeat (first | refine blk_drewN ?_ _ | refine blk_drew ?_ | refine blk_alloc ?_ _)); refine blk_put (cs := #[.int .u8 a0_0, .int .i64 0, .string (⟨#[]⟩ : ByteArray), .slice none 0 0, .int .i64 0]) ?_ 1 _ rfl; (with_reducible repeat (first | refine blk_drewN ?_ _ | refine blk_drew ?_ | refine blk_alloc ?_ _)); refine blk_put (cs := #[.int .u8 0, .int .i64 0, .string (⟨#[]⟩ : ByteArray), .slice none 0 0, .int .i64 0]) ?_ 0 _ rfl; (with_reducible repeat (first | refine blk_drewN ?_ _ | refine blk_drew ?_ | refine blk_alloc ?_ _)); refine blk_far ?_ NB114_113.out _; (with_reducible repeat (first | refine blk_drewN ?_ _ | refine blk_drew ?_ | refine blk_alloc ?_ _)); exact BK114.out) Try.underlying27 rfl (by kernel_rfl)) rfl ?_
    exact ⟨_, by first | rfl | (simp [errW_none, errW_some] <;> rfl) | (simp [*, errW_none, errW_some] <;> rfl), by first | exact Kd.R_nil _ _ _ _ _ | exact Kd.N_nil _ _ _ _ _ | exact Kd.V_nil _ _ _ _ _ | exact Kd.Q_nil _ _ _ _ _ | exact Kd.S_nil _ _ _ _ _, by repeat (first | (with_reducible first | exact HB.out | apply below_alloc | apply pw_below_drewN | apply below_drew1 | refine below_set ?_ GE113.out | refine below_set ?_ GE114.out) | exact HB.out)⟩
  · rw [if_neg c2] at H
    have c2b0 : ((l0_3.length : Int) == 0) = false := beq_eq_false_iff_ne.mpr c2
    have c2b1 : ((l0_3.length : Int) != 0) = true := bne_iff_ne.mpr c2
    have c2b2 : ¬ (l0_3 = []) := fun h_ => c2 (by rw [h_]; rfl)
    by_cases c8 : 0 ≤ (l0_3.length : Int)
    · rw [if_pos c8] at H
      have c8b0 := eq_true c8
      have c8b1 : decide (0 ≤ (l0_3.length : Int)) = true := decide_eq_true c8
      clear c8
      by_cases c9 : ((l0_3.length : Int) : Int).toNat ≤ 4398046511104
      · rw [if_pos c9] at H
        have c9b0 := eq_true c9
        have c9b1 : decide (((l0_3.length : Int) : Int).toNat ≤ 4398046511104) = true := decide_eq_true c9
        clear c9
        obtain ⟨y115, hy115⟩ : ∃ y_ : List (S27), y_ = (List.replicate ((l0_3.length : Int) : Int).toNat z27) := ⟨_, rfl⟩
        replace H : (value_own.l0 k y115 l0_3 (l0_3.length : Int) 0 a0_0 a0_1 a0_2 l0_3 a0_4) = some (r1, r2, r3, r4, r5) := by first | (rw [hy115]; with_reducible exact H) | (have H2_ := (Option.bind_some _ _).symm.trans H; rw [hy115]; with_reducible exact H2_) | (have H2_ := (Option.bind_some _ _).symm.trans H; with_reducible exact H2_) | with_reducible exact H | (rw [hy115]; exact H) | exact H
        have Ny115 := Aside0.mk hy115
        clear hy115
        have H' := Aside0.mk H
        clear H
        go_enter Try.func56, Try.ntmps56
        go_wp2_with (first | ((with_reducible refine gate_dst (N := 1) rfl ?_); refine box_event ?hg (N := 1) ?hd (cs := #[.int .u8 a0_0, .int .i64 a0_1, .string a0_2, .slice A0_3 l0_3.length c0_3, .int .i64 a0_4]) (t := 27) ?hr ?_; (case hd => rfl); (case hg => rfl); (case hr => first | (go_simp; done) | (go_simp; rfl)); intro gb113 hg w10 hbox hb; have n0_ := Aside0.mk (Kd.V_below (Kd.V_elderB (by (with_reducible repeat (first | apply Kd.V_alloc | apply Kd.V_drewN | apply Kd.V_drew)); exact HO0_3.out) gb113 (Nat.le_of_eq hg.symm)) hb); have n1_ := Aside0.mk (below_step (by repeat (first | (with_reducible first | exact HB.out | apply below_alloc | apply pw_below_drewN | apply below_drew1) | exact HB.out)) hb); have n2_ := Aside0.mk (hbox); have n3_ := Aside0.mk ((by rw [hg]; exact (below_size (by repeat (first | (with_reducible first | exact HB.out | apply below_alloc | apply pw_below_drewN | apply below_drew1) | exact HB.out))) : w.heap.size ≤ gb113)); have n4_ := Aside0.mk ((by rw [hg]; exact (below_size (by repeat (first | (with_reducible first | exact HB.out | apply below_alloc | apply pw_below_drewN | apply below_drew1) | exact HB.out))) : w.heap.size ≤ gb113)); clear HO0_3; clear HB; have HO0_3 := n0_; have HB := n1_; have BK113 := n2_; have GW113 := n3_; have GE113 := n4_; clear n0_ n1_ n2_ n3_ n4_; clear hb hbox hg) | ((with_reducible refine gate_dst (N := 2) rfl ?_); refine box_event ?hg (N := 2) ?hd (cs := #[.int .u8 0, .int .i64 0, .string (⟨#[]⟩ : ByteArray), .slice none 0 0, .int .i64 0]) (t := 27) ?hr ?_; (case hd => rfl); (case hg => rfl); (case hr => first | (go_simp; done) | (go_simp; rfl)); intro gb114 hg w11 hbox hb; have n0_ := Aside0.mk (Kd.V_below (Kd.V_elderB (by (with_reducible repeat (first | apply Kd.V_alloc | apply Kd.V_drewN | apply Kd.V_drew)); exact HO0_3.out) gb114 (Nat.le_of_eq hg.symm)) hb); have n1_ := Aside0.mk (blk_below (g := gb113) (o := .cells #[.int .u8 a0_0, .int .i64 a0_1, .string a0_2, .slice A0_3 l0_3.length c0_3, .int .i64 a0_4] 27 (0, 0)) (by (with_reducible repeat (first | refine blk_drewN ?_ _ | refine blk_drew ?_ | refine blk_alloc ?_ _)); exact BK113.out) hb); have n2_ := Aside0.mk (below_step (by repeat (first | (with_reducible first | exact HB.out | apply below_alloc | apply pw_below_drewN | apply below_drew1 | refine below_set ?_ GE113.out) | exact HB.out)) hb); have n3_ := Aside0.mk (hbox); have n4_ := Aside0.mk ((by rw [hg]; exact (below_size (by repeat (first | (with_reducible first | exact HB.out | apply below_alloc | apply pw_below_drewN | apply below_drew1 | refine below_set ?_ GE113.out) | exact HB.out))) : w.heap.size ≤ gb114)); have n5_ := Aside0.mk ((by rw [hg]; exact (below_size (by repeat (first | (with_reducible first | exact HB.out | apply below_alloc | apply pw_below_drewN | apply below_drew1 | refine below_set ?_ GE113.out) | exact HB.out))) : w.heap.size ≤ gb114)); have n6_ := Aside0.mk ((by rw [hg]; exact Nat.ne_of_lt (blk_lt (g := gb113) (o := .cells #[.int .u8 a0_0, .int .i64 a0_1, .string a0_2, .slice A0_3 l0_3.length c0_3, .int .i64 a0_4] 27 (0, 0)) (by (with_reducible repeat (first | refine blk_drewN ?_ _ | refine blk_drew ?_ | refine blk_alloc ?_ _)); exact BK113.out)) : gb113 ≠ gb114)); have n7_ := Aside0.mk ((by rw [hg]; exact Nat.ne_of_gt (blk_lt (g := gb113) (o := .cells #[.int .u8 a0_0, .int .i64 a0_1, .string a0_2, .slice A0_3 l0_3.length c0_3, .int .i64 a0_4] 27 (0, 0)) (by (with_reducible repeat (first | refine blk_drewN ?_ _ | refine blk_drew ?_ | refine blk_alloc ?_ _)); exact BK113.out)) : gb114 ≠ gb113)); clear HO0_3; clear BK113; clear HB; have HO0_3 := n0_; have BK113 := n1_; have HB := n2_; have BK114 := n3_; have GW114 := n4_; have GE114 := n5_; have NB113_114 := n6_; have NB114_113 := n7_; clear n0_ n1_ n2_ n3_ n4_ n5_ n6_ n7_; clear hb hbox hg; have hnb12 := NB113_114.out; have hnc12 := NB114_113.out; have hcz13_0 : w11.cell? ⟨gb113, 0, none⟩ = some (.int .u8 a0_0) := (blk_cell BK113.out 0).trans rfl; have hcz13_1 : w11.cell? ⟨gb113, 1, none⟩ = some (.int .i64 a0_1) := (blk_cell BK113.out 1).trans rfl; have hcz13_2 : w11.cell? ⟨gb113, 2, none⟩ = some (.string a0_2) := (blk_cell BK113.out 2).trans rfl; have hcz13_3 : w11.cell? ⟨gb113, 3, none⟩ = some (.slice A0_3 l0_3.length c0_3) := (blk_cell BK113.out 3).trans rfl; have hcz13_4 : w11.cell? ⟨gb113, 4, none⟩ = some (.int .i64 a0_4) := (blk_cell BK113.out 4).trans rfl; have hfz13_0 := blk_frozen BK113.out 0; have hfz13_1 := blk_frozen BK113.out 1; have hfz13_2 := blk_frozen BK113.out 2; have hfz13_3 := blk_frozen BK113.out 3; have hfz13_4 := blk_frozen BK113.out 4) | ((with_reducible refine gate_dst (N := 15) rfl ?_); refine Kd.R_make k27 _ 27 rfl (N := 15) rfl 24 _ _ rfl (l0_3.length : Int) rfl rfl Try.underlying24 (.agg #[(.int .u8 0), (.int .i64 0), (.string ⟨#[]⟩), (.slice none 0 0), (.int .i64 0)]) 64 info27 rfl (by decide) (by omega) z27 (ok := fun _ => True) (okp := fun _ => True) (k27_mkM _ _ _ z27 (Kd.R_nil _ _ _ _ _)) (fun _ hk => hk) trivial (of_decide_eq_true (by first | (with_reducible assumption) | assumption)) (Nat.le_trans (Nat.mul_le_mul_right _ (of_decide_eq_true (by first | (with_reducible assumption) | assumption) : (l0_3.length : Int).toNat ≤ 4398046511104)) (by omega)) (Below.refl _ _) (Nat.le_refl _) ?_; intro v116 w14 ho15 hb hg_ hnew_; clear hg_ hnew_; (first | rw [← Ny115.out] at ho15 | (simp only [Int.reduceToNat] at ho15; rw [← Ny115.out] at ho15)); have n0_ := Aside0.mk (Kd.V_elder' (by (with_reducible repeat (first | apply Kd.V_alloc | apply Kd.V_drewN | apply Kd.V_drew)); exact HO0_3.out) (Kd.R_base ho15) hb); have n1_ := Aside0.mk (Kd.R_lower (Kd.R_newB (Kd.R_newB (Kd.R_newM (M := fun k_ => (w.heap.size ≤ k_)) ho15 (below_size (by repeat (first | (with_reducible first | exact HB.out | apply below_alloc | apply pw_below_drewN | apply below_drew1 | refine below_set ?_ GE113.out | refine below_set ?_ GE114.out) | exact HB.out))) (fun k_ h_ => h_)) (g := gb113) (o := .cells #[.int .u8 a0_0, .int .i64 a0_1, .string a0_2, .slice A0_3 l0_3.length c0_3, .int .i64 a0_4] 27 (0, 0)) (by (with_reducible repeat (first | refine blk_drewN ?_ _ | refine blk_drew ?_ | refine blk_alloc ?_ _)); exact BK113.out)) (g := gb114) (o := .cells #[.int .u8 0, .int .i64 0, .string (⟨#[]⟩ : ByteArray), .slice none 0 0, .int .i64 0] 27 (0, 0)) (by (with_reducible repeat (first | refine blk_drewN ?_ _ | refine blk_drew ?_ | refine blk_alloc ?_ _)); exact BK114.out)) (below_size (by repeat (first | (with_reducible first | exact HB.out | apply below_alloc | apply pw_below_drewN | apply below_drew1 | refine below_set ?_ GE113.out | refine below_set ?_ GE114.out) | exact HB.out)))); have n2_ := Aside0.mk (blk_below (g := gb113) (o := .cells #[.int .u8 a0_0, .int .i64 a0_1, .string a0_2, .slice A0_3 l0_3.length c0_3, .int .i64 a0_4] 27 (0, 0)) (by (with_reducible repeat (first | refine blk_drewN ?_ _ | refine blk_drew ?_ | refine blk_alloc ?_ _)); exact BK113.out) hb); have n3_ := Aside0.mk (blk_below (g := gb114) (o := .cells #[.int .u8 0, .int .i64 0, .string (⟨#[]⟩ : ByteArray), .slice none 0 0, .int .i64 0] 27 (0, 0)) (by (with_reducible repeat (first | refine blk_drewN ?_ _ | refine blk_drew ?_ | refine blk_alloc ?_ _)); exact BK114.out) hb); have n4_ := Aside0.mk (below_step (by repeat (first | (with_reducible first | exact HB.out | apply below_alloc | apply pw_below_drewN | apply below_drew1 | refine below_set ?_ GE113.out | refine below_set ?_ GE114.out) | exact HB.out)) hb); clear HO0_3; clear BK113; clear BK114; clear HB; have HO0_3 := n0_; have HO117 := n1_; have BK113 := n2_; have BK114 := n3_; have HB := n4_; clear n0_ n1_ n2_ n3_ n4_; clear hb ho15; have hcz16_0 : w14.cell? ⟨gb113, 0, none⟩ = some (.int .u8 a0_0) := (blk_cell BK113.out 0).trans rfl; have hcz16_1 : w14.cell? ⟨gb113, 1, none⟩ = some (.int .i64 a0_1) := (blk_cell BK113.out 1).trans rfl; have hcz16_2 : w14.cell? ⟨gb113, 2, none⟩ = some (.string a0_2) := (blk_cell BK113.out 2).trans rfl; have hcz16_3 : w14.cell? ⟨gb113, 3, none⟩ = some (.slice A0_3 l0_3.length c0_3) := (blk_cell BK113.out 3).trans rfl; have hcz16_4 : w14.cell? ⟨gb113, 4, none⟩ = some (.int .i64 a0_4) := (blk_cell BK113.out 4).trans rfl; have hfz16_0 := blk_frozen BK113.out 0; have hfz16_1 := blk_frozen BK113.out 1; have hfz16_2 := blk_frozen BK113.out 2; have hfz16_3 := blk_frozen BK113.out 3; have hfz16_4 := blk_frozen BK113.out 4))
        go_loopg [19] k (fun kq v19 w' => ∃ (x3_1 : List (S27)) (x19_1 : Int) (x114000_1 : Int) (x114001_1 : Int) (x114002_1 : ByteArray) (x114003_1 : List (S27)) (x114004_1 : Int) (x115000_1 : Int) (x115001_1 : Int) (x115002_1 : ByteArray) (x115004_1 : Int) (u114003 : Value), v19 = .int .i64 x19_1 ∧ Aside0 (value_own.l0 kq x3_1 l0_3 (l0_3.length : Int) x19_1 x114000_1 x114001_1 x114002_1 x114003_1 x114004_1 = some (r1, r2, r3, r4, r5)) ∧ Aside0 (kq ≤ k) ∧ Aside0 (Kd.R k27 27 w' w.heap.size (fun k_ => (w.heap.size ≤ k_) ∧ k_ ≠ gb113 ∧ k_ ≠ gb114) v116 x3_1) ∧ Aside0 (Kd.V k27 27 w' w.heap.size (fun k_ => (P0_3_ k_ ∨ w.heap.size ≤ k_) ∧ some k_ ≠ (v116 : Value).ownBlock ∧ k_ ≠ gb113 ∧ k_ ≠ gb114) (.slice A0_3 l0_3.length c0_3) l0_3) ∧ Aside0 (Kd.V k27 27 w' w.heap.size (fun k_ => (P0_3_ k_ ∨ w.heap.size ≤ k_) ∧ some k_ ≠ (v116 : Value).ownBlock ∧ k_ ≠ gb113 ∧ k_ ≠ gb114) u114003 x114003_1) ∧ Aside0 (w'.heap[gb113]? = some (.cells #[.int .u8 x114000_1, .int .i64 x114001_1, .string x114002_1, u114003, .int .i64 x114004_1] 27 (0, 0))) ∧ Aside0 (w'.heap[gb114]? = some (.cells #[.int .u8 x115000_1, .int .i64 x115001_1, .string x115002_1, (.slice none 0 0), .int .i64 x115004_1] 27 (0, 0))) ∧ Aside0 (Below w.heap.size w w'))
        case atStart => exact ⟨(y115), (0), (a0_0), (a0_1), (a0_2), (l0_3), (a0_4), (0), (0), ((⟨#[]⟩ : ByteArray)), (0), (.slice A0_3 l0_3.length c0_3), (by first | rfl | (simp; done) | (simp [*]; done)), H', ⟨Nat.le_refl _⟩, ⟨by (with_reducible repeat (first | apply Kd.R_alloc | apply Kd.R_drewN | apply Kd.R_drew)); exact Kd.R_mono HO117.out (fun _ hk => ⟨hk.1.1.1, ⟨hk.1.2, hk.2⟩⟩)⟩, ⟨by (with_reducible repeat (first | apply Kd.V_alloc | apply Kd.V_drewN | apply Kd.V_drew)); exact Kd.V_mono HO0_3.out (fun _ hk => ⟨hk.1.1.1, ⟨hk.2, ⟨hk.1.1.2, hk.1.2⟩⟩⟩)⟩, ⟨by (with_reducible repeat (first | apply Kd.V_alloc | apply Kd.V_drewN | apply Kd.V_drew)); exact Kd.V_mono HO0_3.out (fun _ hk => ⟨hk.1.1.1, ⟨hk.2, ⟨hk.1.1.2, hk.1.2⟩⟩⟩)⟩, ⟨by (with_reducible repeat (first | refine blk_drewN ?_ _ | refine blk_drew ?_ | refine blk_alloc ?_ _)); exact BK113.out⟩, ⟨by (with_reducible repeat (first | refine blk_drewN ?_ _ | refine blk_drew ?_ | refine blk_alloc ?_ _)); exact BK114.out⟩, ⟨by repeat (first | (with_reducible first | exact HB.out | apply below_alloc | apply pw_below_drewN | apply below_drew1 | refine below_set ?_ GE113.out | refine below_set ?_ GE114.out) | exact HB.out)⟩⟩
        case round =>
          clear H'
          try clear c1
          try clear c2
          try clear c2b0
          try clear c2b1
          try clear c2b2
          try clear p2
          try clear c5
          try clear c8
          try clear c8b0
          try clear c8b1
          try clear c9
          try clear c9b0
          try clear c9b1
          try clear c12
          try clear hcz13_0
          try clear hcz13_1
          try clear hcz13_2
          try clear hcz13_3
          try clear hcz13_4
          try clear hcz16_0
          try clear hcz16_1
          try clear hcz16_2
          try clear hcz16_3
          try clear hcz16_4
          try clear hcz6_0
          try clear hcz6_1
          try clear hcz6_2
          try clear hcz6_3
          try clear hcz6_4
          try clear hcz7_0
          try clear hcz7_1
          try clear hcz7_2
          try clear hcz7_3
          try clear hcz7_4
          try clear hfz13_0
          try clear hfz13_1
          try clear hfz13_2
          try clear hfz13_3
          try clear hfz13_4
          try clear hfz16_0
          try clear hfz16_1
          try clear hfz16_2
          try clear hfz16_3
          try clear hfz16_4
          try clear hfz6_0
          try clear hfz6_1
          try clear hfz6_2
          try clear hfz6_3
          try clear hfz6_4
          try clear hfz7_0
          try clear hfz7_1
          try clear hfz7_2
          try clear hfz7_3
          try clear hfz7_4
          try clear HO_3
          try clear HO_17
          try clear HO_114003
          try clear BK113
          try clear BK114
          try clear HB
          try clear HA
          try clear HK1
          obtain ⟨x3_1, x19_1, x114000_1, x114001_1, x114002_1, x114003_1, x114004_1, x115000_1, x115001_1, x115002_1, x115004_1, u114003, rfl, HA, HK1, HO_3, HO_17, HO_114003, BK113, BK114, HB⟩ := hrel
          cases gk with
          | zero => exact absurd HA.out (by simp [value_own.l0])
          | succ k1 =>
            have H := HA.out
            clear HA
            simp only [value_own.l0] at H
            by_cases c17 : x19_1 < (l0_3.length : Int)
            · rw [if_pos c17] at H
              have c17b0 : decide (x19_1 < (l0_3.length : Int)) = true := decide_eq_true c17
              clear c17
              by_cases c18 : 0 ≤ x19_1
              · rw [if_pos c18] at H
                have c18b0 : decide (0 ≤ x19_1) = true := decide_eq_true c18
                clear c18
                by_cases c19 : x19_1 < (l0_3.length : Int)
                · rw [if_pos c19] at H
                  have c19b0 : decide (x19_1 < (l0_3.length : Int)) = true := decide_eq_true c19
                  clear c19
                  replace H := Option.bind_eq_some_iff.mp H
                  obtain ⟨⟨t120, t121, t122, t123, t126⟩, A200, H⟩ := H
                  replace H : (if x19_1 < (x3_1.length : Int) then (value_own.l0 k1 (x3_1.set (x19_1 : Int).toNat (⟨t120, t121, t122, t123, t126⟩ : S27)) l0_3 (l0_3.length : Int) (wrap64 (x19_1 + 1)) x114000_1 x114001_1 x114002_1 x114003_1 x114004_1) else (none)) = some (r1, r2, r3, r4, r5) := H
                  have A20 := Aside0.mk A200
                  clear A200
                  by_cases c21 : x19_1 < (x3_1.length : Int)
                  · rw [if_pos c21] at H
                    have c21b0 : decide (x19_1 < (x3_1.length : Int)) = true := decide_eq_true c21
                    clear c21
                    obtain ⟨y127, hy127⟩ : ∃ y_ : List (S27), y_ = (x3_1.set (x19_1 : Int).toNat (⟨t120, t121, t122, t123, t126⟩ : S27)) := ⟨_, rfl⟩
                    replace H : (value_own.l0 k1 y127 l0_3 (l0_3.length : Int) (wrap64 (x19_1 + 1)) x114000_1 x114001_1 x114002_1 x114003_1 x114004_1) = some (r1, r2, r3, r4, r5) := by first | (rw [hy127]; with_reducible exact H) | (have H2_ := (Option.bind_some _ _).symm.trans H; rw [hy127]; with_reducible exact H2_) | (have H2_ := (Option.bind_some _ _).symm.trans H; with_reducible exact H2_) | with_reducible exact H | (rw [hy127]; exact H) | exact H
                    have Ny127 := Aside0.mk hy127
                    clear hy127
                    have H' := Aside0.mk H
                    clear H
                    have p118 : 0 ≤ (x19_1 : Int) := of_decide_eq_true (by first | (with_reducible assumption) | assumption)
                    have q118 : x19_1 < (l0_3.length : Int) := of_decide_eq_true (by first | (with_reducible assumption) | assumption)
                    obtain ⟨ad118, A118_3, c118_3, e118, hx118_0, hx118_1, hx118_2, hx118_3, hx118_4, hl118_3, hi118_3⟩ := at_T27 (Kd.V_reads' HO_17.out).2.2 x19_1 p118 q118
                    cases e118
                    obtain ⟨ce118, hce118, hMe118, hcc118⟩ := Kd.V_get HO_17.out z27 x19_1 p118 (by first | exact q118 | exact of_decide_eq_true (by first | (with_reducible assumption) | assumption) | (have e_ := (Kd.V_reads' HO_17.out).1; omega))
                    obtain ⟨ua118_3, uc118_3, rfl, ul118_3, ge118_3⟩ := k27_openF hMe118
                    have hv118_3 := hcc118 3 _ rfl
                    rw [add_field _ _ 3 (by omega)] at hv118_3
                    replace hv118_3 := Option.some.inj (hv118_3.symm.trans hx118_3)
                    injection hv118_3 with hva_ hvn_ hvc_
                    rw [hva_] at ge118_3
                    rw [hvc_] at ul118_3
                    have HL118_3 := Aside0.mk (show Kd.V k27 27 _ w.heap.size _ _ ((rd_T27 l0_3 x19_1).f3) from Kd.V_mk ul118_3 ge118_3)
                    clear hva_ hvn_ hvc_ ge118_3 ul118_3
                    clear hcc118 hce118
                    have HR118_3 := Aside0.mk hi118_3
                    have HC118_3 := Aside0.mk hl118_3
                    clear hi118_3 hl118_3
                    replace p118 := eq_true p118
                    replace q118 := eq_true q118
                    go_wp2_with (first | ((with_reducible refine gate_dst (N := 5) rfl ?_); refine box_event ?hg (N := 5) ?hd (cs := #[.int .u8 0, .int .i64 0, .string (⟨#[]⟩ : ByteArray), .slice none 0 0, .int .i64 0]) (t := 27) ?hr ?_; (case hd => rfl); (case hg => rfl); (case hr => first | (go_simp; done) | (go_simp; rfl)); intro gb119 hg w23 hbox hb; have n0_ := Aside0.mk (Kd.R_below (Kd.R_elderB (by (with_reducible repeat (first | apply Kd.R_alloc | apply Kd.R_drewN | apply Kd.R_drew)); exact HO_3.out) gb119 (Nat.le_of_eq hg.symm)) hb); have n1_ := Aside0.mk (Kd.V_below (Kd.V_elderB (by (with_reducible repeat (first | apply Kd.V_alloc | apply Kd.V_drewN | apply Kd.V_drew)); exact HO_17.out) gb119 (Nat.le_of_eq hg.symm)) hb); have n2_ := Aside0.mk (Kd.V_below (Kd.V_elderB (by (with_reducible repeat (first | apply Kd.V_alloc | apply Kd.V_drewN | apply Kd.V_drew)); exact HO_114003.out) gb119 (Nat.le_of_eq hg.symm)) hb); have n3_ := Aside0.mk (Kd.V_below (Kd.V_elderB (by (with_reducible repeat (first | apply Kd.V_alloc | apply Kd.V_drewN | apply Kd.V_drew)); exact HL118_3.out) gb119 (Nat.le_of_eq hg.symm)) hb); have n4_ := Aside0.mk (blk_below (g := gb113) (o := .cells #[.int .u8 x114000_1, .int .i64 x114001_1, .string x114002_1, u114003, .int .i64 x114004_1] 27 (0, 0)) (by (with_reducible repeat (first | refine blk_drewN ?_ _ | refine blk_drew ?_ | refine blk_alloc ?_ _)); exact BK113.out) hb); have n5_ := Aside0.mk (blk_below (g := gb114) (o := .cells #[.int .u8 x115000_1, .int .i64 x115001_1, .string x115002_1, .slice none 0 0, .int .i64 x115004_1] 27 (0, 0)) (by (with_reducible repeat (first | refine blk_drewN ?_ _ | refine blk_drew ?_ | refine blk_alloc ?_ _)); exact BK114.out) hb); have n6_ := Aside0.mk (Kd.C_below (by repeat (first | (with_reducible exact HR118_3.out) | (with_reducible refine Kd.C_alloc ?_ _) | (with_reducible refine Kd.C_drewN ?_ _) | (with_reducible refine Kd.C_drew ?_) | exact HR118_3.out)) hb); have n7_ := Aside0.mk (below_step (by repeat (first | (with_reducible first | exact HB.out | apply below_alloc | apply pw_below_drewN | apply below_drew1 | refine below_set ?_ GE113.out | refine below_set ?_ GE114.out) | exact HB.out)) hb); have n8_ := Aside0.mk (hbox); have n9_ := Aside0.mk ((by rw [hg]; exact (below_size (by repeat (first | (with_reducible first | exact HB.out | apply below_alloc | apply pw_below_drewN | apply below_drew1 | refine below_set ?_ GE113.out | refine below_set ?_ GE114.out) | exact HB.out))) : w.heap.size ≤ gb119)); have n10_ := Aside0.mk ((by rw [hg]; exact (below_size (by repeat (first | (with_reducible first | exact HB.out | apply below_alloc | apply pw_below_drewN | apply below_drew1 | refine below_set ?_ GE113.out | refine below_set ?_ GE114.out) | exact HB.out))) : w.heap.size ≤ gb119)); have n11_ := Aside0.mk ((by rw [hg]; exact Nat.ne_of_lt (blk_lt (g := gb113) (o := .cells #[.int .u8 x114000_1, .int .i64 x114001_1, .string x114002_1, u114003, .int .i64 x114004_1] 27 (0, 0)) (by (with_reducible repeat (first | refine blk_drewN ?_ _ | refine blk_drew ?_ | refine blk_alloc ?_ _)); exact BK113.out)) : gb113 ≠ gb119)); have n12_ := Aside0.mk ((by rw [hg]; exact Nat.ne_of_gt (blk_lt (g := gb113) (o := .cells #[.int .u8 x114000_1, .int .i64 x114001_1, .string x114002_1, u114003, .int .i64 x114004_1] 27 (0, 0)) (by (with_reducible repeat (first | refine blk_drewN ?_ _ | refine blk_drew ?_ | refine blk_alloc ?_ _)); exact BK113.out)) : gb119 ≠ gb113)); have n13_ := Aside0.mk ((by rw [hg]; exact Nat.ne_of_lt (blk_lt (g := gb114) (o := .cells #[.int .u8 x115000_1, .int .i64 x115001_1, .string x115002_1, .slice none 0 0, .int .i64 x115004_1] 27 (0, 0)) (by (with_reducible repeat (first | refine blk_drewN ?_ _ | refine blk_drew ?_ | refine blk_alloc ?_ _)); exact BK114.out)) : gb114 ≠ gb119)); have n14_ := Aside0.mk ((by rw [hg]; exact Nat.ne_of_gt (blk_lt (g := gb114) (o := .cells #[.int .u8 x115000_1, .int .i64 x115001_1, .string x115002_1, .slice none 0 0, .int .i64 x115004_1] 27 (0, 0)) (by (with_reducible repeat (first | refine blk_drewN ?_ _ | refine blk_drew ?_ | refine blk_alloc ?_ _)); exact BK114.out)) : gb119 ≠ gb114)); clear HO_3; clear HO_17; clear HO_114003; clear HL118_3; clear BK113; clear BK114; clear HR118_3; clear HB; have HO_3 := n0_; have HO_17 := n1_; have HO_114003 := n2_; have HL118_3 := n3_; have BK113 := n4_; have BK114 := n5_; have HR118_3 := n6_; have HB := n7_; have BK119 := n8_; have GW119 := n9_; have GE119 := n10_; have NB113_119 := n11_; have NB119_113 := n12_; have NB114_119 := n13_; have NB119_114 := n14_; clear n0_ n1_ n2_ n3_ n4_ n5_ n6_ n7_ n8_ n9_ n10_ n11_ n12_ n13_ n14_; clear hb hbox hg; have hnb24 := NB119_113.out; have hnc24 := NB113_119.out; have hnb25 := NB119_114.out; have hnc25 := NB114_119.out; have hcz26_0 : w23.cell? ⟨gb119, 0, none⟩ = some (.int .u8 0) := (blk_cell BK119.out 0).trans rfl; have hcz26_1 : w23.cell? ⟨gb119, 1, none⟩ = some (.int .i64 0) := (blk_cell BK119.out 1).trans rfl; have hcz26_2 : w23.cell? ⟨gb119, 2, none⟩ = some (.string (⟨#[]⟩ : ByteArray)) := (blk_cell BK119.out 2).trans rfl; have hcz26_3 : w23.cell? ⟨gb119, 3, none⟩ = some (.slice none 0 0) := (blk_cell BK119.out 3).trans rfl; have hcz26_4 : w23.cell? ⟨gb119, 4, none⟩ = some (.int .i64 0) := (blk_cell BK119.out 4).trans rfl; have hfz26_0 := blk_frozen BK119.out 0; have hfz26_1 := blk_frozen BK119.out 1; have hfz26_2 := blk_frozen BK119.out 2; have hfz26_3 := blk_frozen BK119.out 3; have hfz26_4 := blk_frozen BK119.out 4) | ((with_reducible refine gate_store (t := 27) (p := 5) rfl ?_); refine store_event (t := 27) (p := 5) (v := ?vo_w27) (w1 := (((((w23.setCell ⟨gb119, 0, none⟩ (.int .u8 ((rd_T27 l0_3 x19_1).f0))).setCell ⟨gb119, 1, none⟩ (.int .i64 ((rd_T27 l0_3 x19_1).f1))).setCell ⟨gb119, 2, none⟩ (.string ((rd_T27 l0_3 x19_1).f2))).setCell ⟨gb119, 3, none⟩ (.slice A118_3 ((rd_T27 l0_3 x19_1).f3).length c118_3)).setCell ⟨gb119, 4, none⟩ (.int .i64 ((rd_T27 l0_3 x19_1).f4)))) ?hg ?ho ?hn ?hr ?_; (case ho => rfl); (case hg => rfl); (case hn => rfl); (case hr => first | (go_simp; done) | (go_simp; rfl)); intro w27 hw; have n0_ : Aside0 (Kd.R k27 27 w27 w.heap.size (fun k_ => (w.heap.size ≤ k_) ∧ k_ ≠ gb113 ∧ k_ ≠ gb114 ∧ k_ ≠ gb119) v116 x3_1) := ⟨(by rw [hw]; exact (by (with_reducible repeat (first | apply Kd.R_alloc | apply Kd.R_drewN | apply Kd.R_drew)); exact Kd.R_mono (Kd.R_far (p := ⟨gb119, 4, none⟩) (Kd.R_far (p := ⟨gb119, 3, none⟩) (Kd.R_far (p := ⟨gb119, 2, none⟩) (Kd.R_far (p := ⟨gb119, 1, none⟩) (Kd.R_far (p := ⟨gb119, 0, none⟩) (Kd.R_mono HO_3.out (fun k_ hk => (⟨hk, hk.2⟩ : _ ∧ k_ ≠ gb119))) (fun _ hk => hk.2) (.int .u8 ((rd_T27 l0_3 x19_1).f0))) (fun _ hk => hk.2) (.int .i64 ((rd_T27 l0_3 x19_1).f1))) (fun _ hk => hk.2) (.string ((rd_T27 l0_3 x19_1).f2))) (fun _ hk => hk.2) (.slice A118_3 ((rd_T27 l0_3 x19_1).f3).length c118_3)) (fun _ hk => hk.2) (.int .i64 ((rd_T27 l0_3 x19_1).f4))) (fun _ hk => ⟨hk.1.1.1, ⟨hk.1.1.2.1, ⟨hk.1.1.2.2, hk.1.2⟩⟩⟩)))⟩; have n1_ : Aside0 (Kd.V k27 27 w27 w.heap.size (fun k_ => (P0_3_ k_ ∨ w.heap.size ≤ k_) ∧ some k_ ≠ (v116 : Value).ownBlock ∧ k_ ≠ gb113 ∧ k_ ≠ gb114 ∧ k_ ≠ gb119) (.slice (some ad118) l0_3.length c0_3) l0_3) := ⟨(by rw [hw]; exact (by (with_reducible repeat (first | apply Kd.V_alloc | apply Kd.V_drewN | apply Kd.V_drew)); exact Kd.V_mono (Kd.V_far (p := ⟨gb119, 4, none⟩) (Kd.V_far (p := ⟨gb119, 3, none⟩) (Kd.V_far (p := ⟨gb119, 2, none⟩) (Kd.V_far (p := ⟨gb119, 1, none⟩) (Kd.V_far (p := ⟨gb119, 0, none⟩) (Kd.V_mono HO_17.out (fun k_ hk => (⟨hk, hk.2⟩ : _ ∧ k_ ≠ gb119))) (fun _ hk => hk.2) (.int .u8 ((rd_T27 l0_3 x19_1).f0))) (fun _ hk => hk.2) (.int .i64 ((rd_T27 l0_3 x19_1).f1))) (fun _ hk => hk.2) (.string ((rd_T27 l0_3 x19_1).f2))) (fun _ hk => hk.2) (.slice A118_3 ((rd_T27 l0_3 x19_1).f3).length c118_3)) (fun _ hk => hk.2) (.int .i64 ((rd_T27 l0_3 x19_1).f4))) (fun _ hk => ⟨hk.1.1.1, ⟨hk.1.1.2.1, ⟨hk.1.1.2.2.1, ⟨hk.1.1.2.2.2, hk.1.2⟩⟩⟩⟩)))⟩; have n2_ : Aside0 (Kd.V k27 27 w27 w.heap.size (fun k_ => (P0_3_ k_ ∨ w.heap.size ≤ k_) ∧ some k_ ≠ (v116 : Value).ownBlock ∧ k_ ≠ gb113 ∧ k_ ≠ gb114 ∧ k_ ≠ gb119) u114003 x114003_1) := ⟨(by rw [hw]; exact (by (with_reducible repeat (first | apply Kd.V_alloc | apply Kd.V_drewN | apply Kd.V_drew)); exact Kd.V_mono (Kd.V_far (p := ⟨gb119, 4, none⟩) (Kd.V_far (p := ⟨gb119, 3, none⟩) (Kd.V_far (p := ⟨gb119, 2, none⟩) (Kd.V_far (p := ⟨gb119, 1, none⟩) (Kd.V_far (p := ⟨gb119, 0, none⟩) (Kd.V_mono HO_114003.out (fun k_ hk => (⟨hk, hk.2⟩ : _ ∧ k_ ≠ gb119))) (fun _ hk => hk.2) (.int .u8 ((rd_T27 l0_3 x19_1).f0))) (fun _ hk => hk.2) (.int .i64 ((rd_T27 l0_3 x19_1).f1))) (fun _ hk => hk.2) (.string ((rd_T27 l0_3 x19_1).f2))) (fun _ hk => hk.2) (.slice A118_3 ((rd_T27 l0_3 x19_1).f3).length c118_3)) (fun _ hk => hk.2) (.int .i64 ((rd_T27 l0_3 x19_1).f4))) (fun _ hk => ⟨hk.1.1.1, ⟨hk.1.1.2.1, ⟨hk.1.1.2.2.1, ⟨hk.1.1.2.2.2, hk.1.2⟩⟩⟩⟩)))⟩; have n3_ : Aside0 (Kd.V k27 27 w27 w.heap.size (fun k_ => (P0_3_ k_ ∨ w.heap.size ≤ k_) ∧ some k_ ≠ (v116 : Value).ownBlock ∧ k_ ≠ gb113 ∧ k_ ≠ gb114 ∧ k_ ≠ gb119) (.slice A118_3 ((rd_T27 l0_3 x19_1).f3).length c118_3) ((rd_T27 l0_3 x19_1).f3)) := ⟨(by rw [hw]; exact (by (with_reducible repeat (first | apply Kd.V_alloc | apply Kd.V_drewN | apply Kd.V_drew)); exact Kd.V_mono (Kd.V_far (p := ⟨gb119, 4, none⟩) (Kd.V_far (p := ⟨gb119, 3, none⟩) (Kd.V_far (p := ⟨gb119, 2, none⟩) (Kd.V_far (p := ⟨gb119, 1, none⟩) (Kd.V_far (p := ⟨gb119, 0, none⟩) (Kd.V_mono HL118_3.out (fun k_ hk => (⟨hk, hk.2⟩ : _ ∧ k_ ≠ gb119))) (fun _ hk => hk.2) (.int .u8 ((rd_T27 l0_3 x19_1).f0))) (fun _ hk => hk.2) (.int .i64 ((rd_T27 l0_3 x19_1).f1))) (fun _ hk => hk.2) (.string ((rd_T27 l0_3 x19_1).f2))) (fun _ hk => hk.2) (.slice A118_3 ((rd_T27 l0_3 x19_1).f3).length c118_3)) (fun _ hk => hk.2) (.int .i64 ((rd_T27 l0_3 x19_1).f4))) (fun _ hk => ⟨hk.1.1.1, ⟨hk.1.1.2.1, ⟨hk.1.1.2.2.1, ⟨hk.1.1.2.2.2, hk.1.2⟩⟩⟩⟩)))⟩; have n4_ : Aside0 (w27.heap[gb113]? = some (.cells #[.int .u8 x114000_1, .int .i64 x114001_1, .string x114002_1, u114003, .int .i64 x114004_1] 27 (0, 0))) := ⟨(by rw [hw]; exact (by (with_reducible repeat (first | refine blk_drewN ?_ _ | refine blk_drew ?_ | refine blk_alloc ?_ _)); refine blk_far ?_ NB113_119.out _; (with_reducible repeat (first | refine blk_drewN ?_ _ | refine blk_drew ?_ | refine blk_alloc ?_ _)); refine blk_far ?_ NB113_119.out _; (with_reducible repeat (first | refine blk_drewN ?_ _ | refine blk_drew ?_ | refine blk_alloc ?_ _)); refine blk_far ?_ NB113_119.out _; (with_reducible repeat (first | refine blk_drewN ?_ _ | refine blk_drew ?_ | refine blk_alloc ?_ _)); refine blk_far ?_ NB113_119.out _; (with_reducible repeat (first | refine blk_drewN ?_ _ | refine blk_drew ?_ | refine blk_alloc ?_ _)); refine blk_far ?_ NB113_119.out _; (with_reducible repeat (first | refine blk_drewN ?_ _ | refine blk_drew ?_ | refine blk_alloc ?_ _)); exact BK113.out))⟩; have n5_ : Aside0 (w27.heap[gb114]? = some (.cells #[.int .u8 x115000_1, .int .i64 x115001_1, .string x115002_1, .slice none 0 0, .int .i64 x115004_1] 27 (0, 0))) := ⟨(by rw [hw]; exact (by (with_reducible repeat (first | refine blk_drewN ?_ _ | refine blk_drew ?_ | refine blk_alloc ?_ _)); refine blk_far ?_ NB114_119.out _; (with_reducible repeat (first | refine blk_drewN ?_ _ | refine blk_drew ?_ | refine blk_alloc ?_ _)); refine blk_far ?_ NB114_119.out _; (with_reducible repeat (first | refine blk_drewN ?_ _ | refine blk_drew ?_ | refine blk_alloc ?_ _)); refine blk_far ?_ NB114_119.out _; (with_reducible repeat (first | refine blk_drewN ?_ _ | refine blk_drew ?_ | refine blk_alloc ?_ _)); refine blk_far ?_ NB114_119.out _; (with_reducible repeat (first | refine blk_drewN ?_ _ | refine blk_drew ?_ | refine blk_alloc ?_ _)); refine blk_far ?_ NB114_119.out _; (with_reducible repeat (first | refine blk_drewN ?_ _ | refine blk_drew ?_ | refine blk_alloc ?_ _)); exact BK114.out))⟩; have n6_ : Aside0 (w27.heap[gb119]? = some (.cells #[.int .u8 ((rd_T27 l0_3 x19_1).f0), .int .i64 ((rd_T27 l0_3 x19_1).f1), .string ((rd_T27 l0_3 x19_1).f2), .slice A118_3 ((rd_T27 l0_3 x19_1).f3).length c118_3, .int .i64 ((rd_T27 l0_3 x19_1).f4)] 27 (0, 0))) := ⟨(by rw [hw]; exact (by (with_reducible repeat (first | refine blk_drewN ?_ _ | refine blk_drew ?_ | refine blk_alloc ?_ _)); refine blk_put (cs := #[.int .u8 ((rd_T27 l0_3 x19_1).f0), .int .i64 ((rd_T27 l0_3 x19_1).f1), .string ((rd_T27 l0_3 x19_1).f2), .slice A118_3 ((rd_T27 l0_3 x19_1).f3).length c118_3, .int .i64 0]) ?_ 4 _ rfl; (with_reducible repeat (first | refine blk_drewN ?_ _ | refine blk_drew ?_ | refine blk_alloc ?_ _)); refine blk_put (cs := #[.int .u8 ((rd_T27 l0_3 x19_1).f0), .int .i64 ((rd_T27 l0_3 x19_1).f1), .string ((rd_T27 l0_3 x19_1).f2), .slice none 0 0, .int .i64 0]) ?_ 3 _ rfl; (with_reducible repeat (first | refine blk_drewN ?_ _ | refine blk_drew ?_ | refine blk_alloc ?_ _)); refine blk_put (cs := #[.int .u8 ((rd_T27 l0_3 x19_1).f0), .int .i64 ((rd_T27 l0_3 x19_1).f1), .string (⟨#[]⟩ : ByteArray), .slice none 0 0, .int .i64 0]) ?_ 2 _ rfl; (with_reducible repeat (first | refine blk_drewN ?_ _ | refine blk_drew ?_ | refine blk_alloc ?_ _)); refine blk_put (cs := #[.int .u8 ((rd_T27 l0_3 x19_1).f0), .int .i64 0, .string (⟨#[]⟩ : ByteArray), .slice none 0 0, .int .i64 0]) ?_ 1 _ rfl; (with_reducible repeat (first | refine blk_drewN ?_ _ | refine blk_drew ?_ | refine blk_alloc ?_ _)); refine blk_put (cs := #[.int .u8 0, .int .i64 0, .string (⟨#[]⟩ : ByteArray), .slice none 0 0, .int .i64 0]) ?_ 0 _ rfl; (with_reducible repeat (first | refine blk_drewN ?_ _ | refine blk_drew ?_ | refine blk_alloc ?_ _)); exact BK119.out))⟩; have n7_ : Aside0 (Below w.heap.size w w27) := ⟨(by rw [hw]; exact (by repeat (first | (with_reducible first | exact HB.out | apply below_alloc | apply pw_below_drewN | apply below_drew1 | refine below_set ?_ GE113.out | refine below_set ?_ GE114.out | refine below_set ?_ GE119.out) | exact HB.out)))⟩; clear hw; clear HO_3; clear HO_17; clear HO_114003; clear HL118_3; clear BK113; clear BK114; clear BK119; clear HB; have HO_3 := n0_; have HO_17 := n1_; have HO_114003 := n2_; have HL118_3 := n3_; have BK113 := n4_; have BK114 := n5_; have BK119 := n6_; have HB := n7_; clear n0_ n1_ n2_ n3_ n4_ n5_ n6_ n7_; have hcz28_0 : w27.cell? ⟨gb119, 0, none⟩ = some (.int .u8 ((rd_T27 l0_3 x19_1).f0)) := (blk_cell BK119.out 0).trans rfl; have hcz28_1 : w27.cell? ⟨gb119, 1, none⟩ = some (.int .i64 ((rd_T27 l0_3 x19_1).f1)) := (blk_cell BK119.out 1).trans rfl; have hcz28_2 : w27.cell? ⟨gb119, 2, none⟩ = some (.string ((rd_T27 l0_3 x19_1).f2)) := (blk_cell BK119.out 2).trans rfl; have hcz28_3 : w27.cell? ⟨gb119, 3, none⟩ = some (.slice A118_3 ((rd_T27 l0_3 x19_1).f3).length c118_3) := (blk_cell BK119.out 3).trans rfl; have hcz28_4 : w27.cell? ⟨gb119, 4, none⟩ = some (.int .i64 ((rd_T27 l0_3 x19_1).f4)) := (blk_cell BK119.out 4).trans rfl; have hfz28_0 := blk_frozen BK119.out 0; have hfz28_1 := blk_frozen BK119.out 1; have hfz28_2 := blk_frozen BK119.out 2; have hfz28_3 := blk_frozen BK119.out 3; have hfz28_4 := blk_frozen BK119.out 4) | ((with_reducible refine gate_callee (f := 56) rfl ?_); refine goesL_ (some 27) rfl rfl Try.func56 (by kernel_rfl) rfl #[.agg #[.int .u8 ((rd_T27 l0_3 x19_1).f0), .int .i64 ((rd_T27 l0_3 x19_1).f1), .string ((rd_T27 l0_3 x19_1).f2), .slice A118_3 ((rd_T27 l0_3 x19_1).f3).length c118_3, .int .i64 ((rd_T27 l0_3 x19_1).f4)]] rfl (by (try simp only [List.map_toArray, List.map_cons, List.map_nil]); first | done | rfl | (simp only [List.length_drop, List.length_take]; rfl)) ?_; (with_reducible refine (ih k1 (by have := HK1.out; omega) ((rd_T27 l0_3 x19_1).f0) ((rd_T27 l0_3 x19_1).f1) ((rd_T27 l0_3 x19_1).f2) (fun k_ => ((P0_3_ k_ ∨ w.heap.size ≤ k_) ∧ (some k_ ≠ (v116 : Value).ownBlock ∧ (k_ ≠ gb113 ∧ (k_ ≠ gb114 ∧ k_ ≠ gb119))))) _ _ ((rd_T27 l0_3 x19_1).f3) ((rd_T27 l0_3 x19_1).f4) t120 t121 t122 t123 t126 _ ?side1 A20.out).mono ?_); (case side1 => exact HL118_3.out); rintro e w29 ⟨v124, rfl, ho0, hb⟩; obtain ⟨A124, c124, rfl⟩ := Kd.R_slice ho0; refine ⟨_, rfl, ?_⟩; have n0_ := Aside0.mk (Kd.R_elder' (by (with_reducible repeat (first | apply Kd.R_alloc | apply Kd.R_drewN | apply Kd.R_drew)); exact HO_3.out) (Kd.R_base ho0) hb); have n1_ := Aside0.mk (Kd.V_elder' (by (with_reducible repeat (first | apply Kd.V_alloc | apply Kd.V_drewN | apply Kd.V_drew)); exact HO_17.out) (Kd.R_base ho0) hb); have n2_ := Aside0.mk (Kd.V_elder' (by (with_reducible repeat (first | apply Kd.V_alloc | apply Kd.V_drewN | apply Kd.V_drew)); exact HO_114003.out) (Kd.R_base ho0) hb); have n3_ := Aside0.mk (Kd.V_elder' (by (with_reducible repeat (first | apply Kd.V_alloc | apply Kd.V_drewN | apply Kd.V_drew)); exact HL118_3.out) (Kd.R_base ho0) hb); have n4_ := Aside0.mk (Kd.R_lower (Kd.R_newB (Kd.R_newB (Kd.R_newB (Kd.R_new' (Kd.R_newM (M := fun k_ => (w.heap.size ≤ k_)) (Kd.R_mono (ok' := fun k_ => True) ho0 (fun _ hk_ => trivial)) (below_size (by repeat (first | (with_reducible first | exact HB.out | apply below_alloc | apply pw_below_drewN | apply below_drew1 | refine below_set ?_ GE113.out | refine below_set ?_ GE114.out | refine below_set ?_ GE119.out) | exact HB.out))) (fun k_ h_ => h_)) (Kd.R_lt (by (with_reducible repeat (first | apply Kd.R_alloc | apply Kd.R_drewN | apply Kd.R_drew)); exact HO_3.out))) (g := gb113) (o := .cells #[.int .u8 x114000_1, .int .i64 x114001_1, .string x114002_1, u114003, .int .i64 x114004_1] 27 (0, 0)) (by (with_reducible repeat (first | refine blk_drewN ?_ _ | refine blk_drew ?_ | refine blk_alloc ?_ _)); exact BK113.out)) (g := gb114) (o := .cells #[.int .u8 x115000_1, .int .i64 x115001_1, .string x115002_1, .slice none 0 0, .int .i64 x115004_1] 27 (0, 0)) (by (with_reducible repeat (first | refine blk_drewN ?_ _ | refine blk_drew ?_ | refine blk_alloc ?_ _)); exact BK114.out)) (g := gb119) (o := .cells #[.int .u8 ((rd_T27 l0_3 x19_1).f0), .int .i64 ((rd_T27 l0_3 x19_1).f1), .string ((rd_T27 l0_3 x19_1).f2), .slice A118_3 ((rd_T27 l0_3 x19_1).f3).length c118_3, .int .i64 ((rd_T27 l0_3 x19_1).f4)] 27 (0, 0)) (by (with_reducible repeat (first | refine blk_drewN ?_ _ | refine blk_drew ?_ | refine blk_alloc ?_ _)); exact BK119.out)) (below_size (by repeat (first | (with_reducible first | exact HB.out | apply below_alloc | apply pw_below_drewN | apply below_drew1 | refine below_set ?_ GE113.out | refine below_set ?_ GE114.out | refine below_set ?_ GE119.out) | exact HB.out)))); have n5_ := Aside0.mk (blk_below (g := gb113) (o := .cells #[.int .u8 x114000_1, .int .i64 x114001_1, .string x114002_1, u114003, .int .i64 x114004_1] 27 (0, 0)) (by (with_reducible repeat (first | refine blk_drewN ?_ _ | refine blk_drew ?_ | refine blk_alloc ?_ _)); exact BK113.out) hb); have n6_ := Aside0.mk (blk_below (g := gb114) (o := .cells #[.int .u8 x115000_1, .int .i64 x115001_1, .string x115002_1, .slice none 0 0, .int .i64 x115004_1] 27 (0, 0)) (by (with_reducible repeat (first | refine blk_drewN ?_ _ | refine blk_drew ?_ | refine blk_alloc ?_ _)); exact BK114.out) hb); have n7_ := Aside0.mk (Kd.C_below (Kd.V_reads' HL118_3.out).2.2 hb); have n8_ := Aside0.mk (blk_below (g := gb119) (o := .cells #[.int .u8 ((rd_T27 l0_3 x19_1).f0), .int .i64 ((rd_T27 l0_3 x19_1).f1), .string ((rd_T27 l0_3 x19_1).f2), .slice A118_3 ((rd_T27 l0_3 x19_1).f3).length c118_3, .int .i64 ((rd_T27 l0_3 x19_1).f4)] 27 (0, 0)) (by (with_reducible repeat (first | refine blk_drewN ?_ _ | refine blk_drew ?_ | refine blk_alloc ?_ _)); exact BK119.out) hb); have n9_ := Aside0.mk (below_step (by repeat (first | (with_reducible first | exact HB.out | apply below_alloc | apply pw_below_drewN | apply below_drew1 | refine below_set ?_ GE113.out | refine below_set ?_ GE114.out | refine below_set ?_ GE119.out) | exact HB.out)) hb); clear HO_3; clear HO_17; clear HO_114003; clear HL118_3; clear BK113; clear BK114; clear HR118_3; clear BK119; clear HB; have HO_3 := n0_; have HO_17 := n1_; have HO_114003 := n2_; have HL118_3 := n3_; have HO125 := n4_; have BK113 := n5_; have BK114 := n6_; have HR118_3 := n7_; have BK119 := n8_; have HB := n9_; clear n0_ n1_ n2_ n3_ n4_ n5_ n6_ n7_ n8_ n9_; (try clear hb); (try clear hb2); (try clear hk); (try clear hi); (try clear ho0); have p22 : 0 ≤ (x19_1 : Int) := of_decide_eq_true (by first | (with_reducible assumption) | assumption); have q22 : (x19_1 : Int) < ((x3_1.length : Int) : Int) := of_decide_eq_true (by first | (with_reducible assumption) | assumption); obtain ⟨go22, co22, eo22, gb22, gl22, cl22, HG22⟩ := Kd.R_form HO_3.out (by omega); (first | cases eo22 | (injection eo22 with ea_ en_ ec_; (first | subst ea_ | (injection ea_ with ea_; subst ea_)); subst ec_; clear en_)); have GB22 := Aside0.mk gb22; have GG22 := Aside0.mk HG22; clear gb22 gl22 HG22; obtain ⟨ce22, hcl22, hM22, hcc22, hfr22⟩ := Kd.R_elem HO_3.out z27 (x19_1 : Int) p22 q22; obtain ⟨ve22_3, rfl, ge22_3⟩ := k27_openM hM22; have hx22_0 : w29.cell? ⟨go22, (x19_1 : Int).toNat * 5, none⟩ = some (.int .u8 ((rd_T27 x3_1 x19_1).f0)) := hcc22 0 _ rfl; have hx22_1 : w29.cell? ⟨go22, (x19_1 : Int).toNat * 5 + 1, none⟩ = some (.int .i64 ((rd_T27 x3_1 x19_1).f1)) := hcc22 1 _ rfl; have hx22_2 : w29.cell? ⟨go22, (x19_1 : Int).toNat * 5 + 2, none⟩ = some (.string ((rd_T27 x3_1 x19_1).f2)) := hcc22 2 _ rfl; have hx22_3 : w29.cell? ⟨go22, (x19_1 : Int).toNat * 5 + 3, none⟩ = some (ve22_3) := hcc22 3 _ rfl; have hx22_4 : w29.cell? ⟨go22, (x19_1 : Int).toNat * 5 + 4, none⟩ = some (.int .i64 ((rd_T27 x3_1 x19_1).f4)) := hcc22 4 _ rfl; have hf22_0 : w29.frozen? ⟨go22, (x19_1 : Int).toNat * 5, none⟩ = false := hfr22 0; have hf22_1 : w29.frozen? ⟨go22, (x19_1 : Int).toNat * 5 + 1, none⟩ = false := hfr22 1; have hf22_2 : w29.frozen? ⟨go22, (x19_1 : Int).toNat * 5 + 2, none⟩ = false := hfr22 2; have hf22_3 : w29.frozen? ⟨go22, (x19_1 : Int).toNat * 5 + 3, none⟩ = false := hfr22 3; have hf22_4 : w29.frozen? ⟨go22, (x19_1 : Int).toNat * 5 + 4, none⟩ = false := hfr22 4; clear hcl22 hcc22 hfr22 hM22; replace p22 := eq_true p22; replace q22 := eq_true q22; have n_ := Aside0.mk (Kd.R_mono (ok' := (fun k_ => (w.heap.size ≤ k_) ∧ some k_ ≠ ((Value.slice A124 t123.length c124) : Value).ownBlock ∧ k_ ≠ gb113 ∧ k_ ≠ gb114 ∧ k_ ≠ gb119)) HO_3.out (fun k_ hk => ⟨hk.1.1, ⟨hk.2, ⟨hk.1.2.1, ⟨hk.1.2.2.1, hk.1.2.2.2⟩⟩⟩⟩)); clear HO_3; have HO_3 := n_; clear n_; have HX30 := Aside0.mk (show Kd.R k27 27 w29 w.heap.size (fun k_ => (w.heap.size ≤ k_) ∧ k_ ≠ gb113 ∧ k_ ≠ gb114 ∧ k_ ≠ gb119) (.slice (some ⟨go22, 0, none⟩) x3_1.length co22) x3_1 from (by (with_reducible repeat (first | apply Kd.R_alloc | apply Kd.R_drewN | apply Kd.R_drew)); exact Kd.R_mono HO_3.out (fun _ hk => ⟨hk.1, ⟨hk.2.2.1, ⟨hk.2.2.2.1, hk.2.2.2.2⟩⟩⟩))); obtain ⟨ce30, hcl30, hM30, hcc30, hfr30⟩ := Kd.R_elem HX30.out z27 (x19_1 : Int) (of_decide_eq_true (by first | (with_reducible assumption) | assumption)) (by have h_ : (x19_1 : Int) < ((x3_1.length : Int) : Int) := of_decide_eq_true (by first | (with_reducible assumption) | assumption); first | exact h_ | (have e_ := (Kd.R_reads' HO_3.out).1; omega) | simpa using h_); obtain ⟨ve30_3, rfl, ge30_3⟩ := k27_openM hM30; have HP30 := Kd.R_seg HX30.out (x19_1 : Int) (of_decide_eq_true (by first | (with_reducible assumption) | assumption)) (by have h_ : (x19_1 : Int) < ((x3_1.length : Int) : Int) := of_decide_eq_true (by first | (with_reducible assumption) | assumption); first | exact h_ | (have e_ := (Kd.R_reads' HO_3.out).1; omega) | simpa using h_) (seg := [.int .u8 t120, .int .i64 t121, .string t122, (Value.slice A124 t123.length c124), .int .i64 t126]) (j := 0) hcl30 hcc30 (show 5 ≤ 5 from by decide) (x' := (⟨t120, t121, t122, t123, t126⟩ : S27)) (k27_mkM _ _ _ (⟨t120, t121, t122, t123, t126⟩ : S27) (Kd.R_mono (HO125.out) (fun k_ hk => ⟨⟨hk.1.1.1.1.1, ⟨hk.1.1.2, ⟨hk.1.2, hk.2⟩⟩⟩, fun e_ => (hk.1.1.1.2) (by rw [e_]; rfl)⟩))) (fun _ hk => hk); have hx30_0 := hcc30 0 _ rfl; (try simp only [show (k27).sz = 5 from rfl, Nat.mul_one, Nat.add_zero] at hx30_0); have hf30_0 := hfr30 0; (try simp only [show (k27).sz = 5 from rfl, Nat.mul_one, Nat.add_zero] at hf30_0); have hx30_1 := hcc30 1 _ rfl; (try simp only [show (k27).sz = 5 from rfl, Nat.mul_one, Nat.add_zero] at hx30_1); have hf30_1 := hfr30 1; (try simp only [show (k27).sz = 5 from rfl, Nat.mul_one, Nat.add_zero] at hf30_1); have hx30_2 := hcc30 2 _ rfl; (try simp only [show (k27).sz = 5 from rfl, Nat.mul_one, Nat.add_zero] at hx30_2); have hf30_2 := hfr30 2; (try simp only [show (k27).sz = 5 from rfl, Nat.mul_one, Nat.add_zero] at hf30_2); have hx30_3 := hcc30 3 _ rfl; (try simp only [show (k27).sz = 5 from rfl, Nat.mul_one, Nat.add_zero] at hx30_3); have hf30_3 := hfr30 3; (try simp only [show (k27).sz = 5 from rfl, Nat.mul_one, Nat.add_zero] at hf30_3); have hx30_4 := hcc30 4 _ rfl; (try simp only [show (k27).sz = 5 from rfl, Nat.mul_one, Nat.add_zero] at hx30_4); have hf30_4 := hfr30 4; (try simp only [show (k27).sz = 5 from rfl, Nat.mul_one, Nat.add_zero] at hf30_4); clear hcl30 hcc30 hfr30 hM30) | ((with_reducible refine gate_store (t := 27) (p := 28) rfl ?_); refine store_event (t := 27) (p := 28) (v := ?vo_w31) (w1 := (((((w29.setCell ⟨go22, (x19_1 : Int).toNat * 5, none⟩ (.int .u8 t120)).setCell ⟨go22, (x19_1 : Int).toNat * 5 + 1, none⟩ (.int .i64 t121)).setCell ⟨go22, (x19_1 : Int).toNat * 5 + 2, none⟩ (.string t122)).setCell ⟨go22, (x19_1 : Int).toNat * 5 + 3, none⟩ ((Value.slice A124 t123.length c124))).setCell ⟨go22, (x19_1 : Int).toNat * 5 + 4, none⟩ (.int .i64 t126))) ?hg ?ho ?hn ?hr ?_; (case ho => rfl); (case hg => rfl); (case hn => rfl); (case hr => first | (go_simp; done) | (go_simp; rfl)); intro w31 hw; have hg : w29.grownBy w31 (some go22) := (by rw [hw]; exact HP30.2); have hp_ : Kd.R k27 27 w31 w.heap.size (fun k_ => (w.heap.size ≤ k_) ∧ k_ ≠ gb113 ∧ k_ ≠ gb114 ∧ k_ ≠ gb119) (.slice (some ⟨go22, 0, none⟩) x3_1.length co22) y127 := (by rw [hw, Ny127.out]; exact HP30.1); clear HP30; have n0_ := Aside0.mk (hp_); have n1_ := Aside0.mk (Kd.V_afterv (v := (.slice (some ⟨go22, 0, none⟩) x3_1.length co22)) (v1 := (.slice (some ⟨go22, 0, none⟩) x3_1.length co22)) (ok := (fun k_ => (P0_3_ k_ ∨ w.heap.size ≤ k_) ∧ some k_ ≠ ((Value.slice A124 t123.length c124) : Value).ownBlock ∧ k_ ≠ gb113 ∧ k_ ≠ gb114 ∧ k_ ≠ gb119)) (by (with_reducible repeat (first | apply Kd.V_alloc | apply Kd.V_drewN | apply Kd.V_drew)); exact Kd.V_mono HO_17.out (fun _ hk => ⟨⟨hk.1.1, ⟨hk.2, ⟨hk.1.2.2.1, ⟨hk.1.2.2.2.1, hk.1.2.2.2.2⟩⟩⟩⟩, hk.1.2.1⟩)) hg (.inl rfl)); have n2_ := Aside0.mk (Kd.V_afterv (v := (.slice (some ⟨go22, 0, none⟩) x3_1.length co22)) (v1 := (.slice (some ⟨go22, 0, none⟩) x3_1.length co22)) (ok := (fun k_ => (P0_3_ k_ ∨ w.heap.size ≤ k_) ∧ some k_ ≠ ((Value.slice A124 t123.length c124) : Value).ownBlock ∧ k_ ≠ gb113 ∧ k_ ≠ gb114 ∧ k_ ≠ gb119)) (by (with_reducible repeat (first | apply Kd.V_alloc | apply Kd.V_drewN | apply Kd.V_drew)); exact Kd.V_mono HO_114003.out (fun _ hk => ⟨⟨hk.1.1, ⟨hk.2, ⟨hk.1.2.2.1, ⟨hk.1.2.2.2.1, hk.1.2.2.2.2⟩⟩⟩⟩, hk.1.2.1⟩)) hg (.inl rfl)); have n3_ := Aside0.mk (blk_grown (g := gb113) (o := .cells #[.int .u8 x114000_1, .int .i64 x114001_1, .string x114002_1, u114003, .int .i64 x114004_1] 27 (0, 0)) (by (with_reducible repeat (first | refine blk_drewN ?_ _ | refine blk_drew ?_ | refine blk_alloc ?_ _)); exact BK113.out) hg (Kd.R_away HO_3.out (fun _ hk => hk.2.2.1))); have n4_ := Aside0.mk (blk_grown (g := gb114) (o := .cells #[.int .u8 x115000_1, .int .i64 x115001_1, .string x115002_1, .slice none 0 0, .int .i64 x115004_1] 27 (0, 0)) (by (with_reducible repeat (first | refine blk_drewN ?_ _ | refine blk_drew ?_ | refine blk_alloc ?_ _)); exact BK114.out) hg (Kd.R_away HO_3.out (fun _ hk => hk.2.2.2.1))); have n5_ := Aside0.mk (Kd.V_afterv (v := (.slice (some ⟨go22, 0, none⟩) x3_1.length co22)) (v1 := (.slice (some ⟨go22, 0, none⟩) x3_1.length co22)) (ok := (fun k_ => (P0_3_ k_ ∨ w.heap.size ≤ k_) ∧ some k_ ≠ ((Value.slice A124 t123.length c124) : Value).ownBlock ∧ k_ ≠ gb113 ∧ k_ ≠ gb114 ∧ k_ ≠ gb119)) (by (with_reducible repeat (first | apply Kd.V_alloc | apply Kd.V_drewN | apply Kd.V_drew)); exact Kd.V_mono HL118_3.out (fun _ hk => ⟨⟨hk.1.1, ⟨hk.2, ⟨hk.1.2.2.1, ⟨hk.1.2.2.2.1, hk.1.2.2.2.2⟩⟩⟩⟩, hk.1.2.1⟩)) hg (.inl rfl)); have n6_ := Aside0.mk (blk_grown (g := gb119) (o := .cells #[.int .u8 ((rd_T27 l0_3 x19_1).f0), .int .i64 ((rd_T27 l0_3 x19_1).f1), .string ((rd_T27 l0_3 x19_1).f2), .slice A118_3 ((rd_T27 l0_3 x19_1).f3).length c118_3, .int .i64 ((rd_T27 l0_3 x19_1).f4)] 27 (0, 0)) (by (with_reducible repeat (first | refine blk_drewN ?_ _ | refine blk_drew ?_ | refine blk_alloc ?_ _)); exact BK119.out) hg (Kd.R_away HO_3.out (fun _ hk => hk.2.2.2.2))); have n7_ := Aside0.mk ((by rw [hw]; exact below_set (below_set (below_set (below_set (below_set (HB.out) GB22.out) GB22.out) GB22.out) GB22.out) GB22.out : Below w.heap.size w w31)); clear HO_3; clear HO_17; clear HO_114003; clear BK113; clear BK114; clear HL118_3; clear BK119; clear HB; clear HO125; have HO_3 := n0_; have HO_17 := n1_; have HO_114003 := n2_; have BK113 := n3_; have BK114 := n4_; have HL118_3 := n5_; have BK119 := n6_; have HB := n7_; clear n0_ n1_ n2_ n3_ n4_ n5_ n6_ n7_; clear hg hw hp_))
                    go_roundg k1
                    case measure => have := HK1.out; omega
                    case rel => exact ⟨(y127), (wrap64 (x19_1 + 1)), (x114000_1), (x114001_1), (x114002_1), (x114003_1), (x114004_1), (x115000_1), (x115001_1), (x115002_1), (x115004_1), (u114003), (by first | rfl | (simp; done) | (simp [*]; done)), H', ⟨by have := HK1.out; omega⟩, ⟨by (with_reducible repeat (first | apply Kd.R_alloc | apply Kd.R_drewN | apply Kd.R_drew)); exact Kd.R_mono HO_3.out (fun _ hk => ⟨hk.1, ⟨hk.2.1, hk.2.2.1⟩⟩)⟩, ⟨by (with_reducible repeat (first | apply Kd.V_alloc | apply Kd.V_drewN | apply Kd.V_drew)); exact Kd.V_mono HO_17.out (fun _ hk => ⟨hk.1.1, ⟨hk.2, ⟨hk.1.2.2.1, hk.1.2.2.2.1⟩⟩⟩)⟩, ⟨by (with_reducible repeat (first | apply Kd.V_alloc | apply Kd.V_drewN | apply Kd.V_drew)); exact Kd.V_mono HO_114003.out (fun _ hk => ⟨hk.1.1, ⟨hk.2, ⟨hk.1.2.2.1, hk.1.2.2.2.1⟩⟩⟩)⟩, ⟨by (with_reducible repeat (first | refine blk_drewN ?_ _ | refine blk_drew ?_ | refine blk_alloc ?_ _)); exact BK113.out⟩, ⟨by (with_reducible repeat (first | refine blk_drewN ?_ _ | refine blk_drew ?_ | refine blk_alloc ?_ _)); exact BK114.out⟩, ⟨by repeat (first | (with_reducible first | exact HB.out | apply below_alloc | apply pw_below_drewN | apply below_drew1 | refine below_set ?_ GE113.out | refine below_set ?_ GE114.out | refine below_set ?_ GE119.out) | exact HB.out)⟩⟩
                  · rw [if_neg c21] at H
                    exact absurd H (by simp)
                · rw [if_neg c19] at H
                  exact absurd H (by simp)
              · rw [if_neg c18] at H
                exact absurd H (by simp)
            · rw [if_neg c17] at H
              have c17b0 : decide (x19_1 < (l0_3.length : Int)) = false := decide_eq_false c17
              clear c17
              simp only [Option.some.injEq, Prod.mk.injEq] at H
              obtain ⟨rfl, rfl, rfl, rfl, rfl⟩ := H
              obtain ⟨Ao32, co32, eo32⟩ := Kd.R_slice HO_3.out
              subst eo32
              have hnb33 := NB113_114.out
              have hnc33 := NB114_113.out
              have hcz34_0 : wr.cell? ⟨gb113, 0, none⟩ = some (.int .u8 x114000_1) := (blk_cell BK113.out 0).trans rfl
              have hcz34_1 : wr.cell? ⟨gb113, 1, none⟩ = some (.int .i64 x114001_1) := (blk_cell BK113.out 1).trans rfl
              have hcz34_2 : wr.cell? ⟨gb113, 2, none⟩ = some (.string x114002_1) := (blk_cell BK113.out 2).trans rfl
              have hcz34_3 : wr.cell? ⟨gb113, 3, none⟩ = some (u114003) := (blk_cell BK113.out 3).trans rfl
              have hcz34_4 : wr.cell? ⟨gb113, 4, none⟩ = some (.int .i64 x114004_1) := (blk_cell BK113.out 4).trans rfl
              have hfz34_0 := blk_frozen BK113.out 0
              have hfz34_1 := blk_frozen BK113.out 1
              have hfz34_2 := blk_frozen BK113.out 2
              have hfz34_3 := blk_frozen BK113.out 3
              have hfz34_4 := blk_frozen BK113.out 4
              have hcz35_0 : wr.cell? ⟨gb114, 0, none⟩ = some (.int .u8 x115000_1) := (blk_cell BK114.out 0).trans rfl
              have hcz35_1 : wr.cell? ⟨gb114, 1, none⟩ = some (.int .i64 x115001_1) := (blk_cell BK114.out 1).trans rfl
              have hcz35_2 : wr.cell? ⟨gb114, 2, none⟩ = some (.string x115002_1) := (blk_cell BK114.out 2).trans rfl
              have hcz35_3 : wr.cell? ⟨gb114, 3, none⟩ = some (.slice none 0 0) := (blk_cell BK114.out 3).trans rfl
              have hcz35_4 : wr.cell? ⟨gb114, 4, none⟩ = some (.int .i64 x115004_1) := (blk_cell BK114.out 4).trans rfl
              have hfz35_0 := blk_frozen BK114.out 0
              have hfz35_1 := blk_frozen BK114.out 1
              have hfz35_2 := blk_frozen BK114.out 2
              have hfz35_3 := blk_frozen BK114.out 3
              have hfz35_4 := blk_frozen BK114.out 4
              go_wp2
              refine bodyPost_ret (results_cell_row rfl _ _ gb114 27 #[.int .u8 x114000_1, .int .i64 x114001_1, .string x114002_1, .slice Ao32 x3_1.length co32, .int .i64 x114004_1] (0, 0) _ rfl (by (with_reducible repeat (first | refine blk_drewN ?_ _ | refine blk_drew ?_ | refine blk_alloc ?_ _)); refine blk_put (cs := #[.int .u8 x114000_1, .int .i64 x114001_1, .string x114002_1, .slice Ao32 x3_1.length co32, .int .i64 x115004_1]) ?_ 4 _ rfl; (with_reducible repeat (first | refine blk_drewN ?_ _ | refine blk_drew ?_ | refine blk_alloc ?_ _)); refine blk_put (cs := #[.int .u8 x114000_1, .int .i64 x114001_1, .string x114002_1, .slice none 0 0, .int .i64 x115004_1]) ?_ 3 _ rfl; (with_reducible repeat (first | refine blk_drewN ?_ _ | refine blk_drew ?_ | refine blk_alloc ?_ _)); refine blk_put (cs := #[.int .u8 x114000_1, .int .i64 x114001_1, .string x115002_1, .slice none 0 0, .int .i64 x115004_1]) ?_ 2 _ rfl; (with_reducible repeat (first | refine blk_drewN ?_ _ | refine blk_drew ?_ | refine blk_alloc ?_ _)); refine blk_put (cs := #[.int .u8 x114000_1, .int .i64 x115001_1, .string x115002_1, .slice none 0 0, .int .i64 x115004_1]) ?_ 1 _ rfl; (with_reducible repeat (first | refine blk_drewN ?_ _ | refine blk_drew ?_ | refine blk_alloc ?_ _)); refine blk_put (cs := #[.int .u8 x115000_1, .int .i64 x115001_1, .string x115002_1, .slice none 0 0, .int .i64 x115004_1]) ?_ 0 _ rfl; (with_reducible repeat (first | refine blk_drewN ?_ _ | refine blk_drew ?_ | refine blk_alloc ?_ _)); refine blk_far ?_ NB114_113.out _; (with_reducible repeat (first | refine blk_drewN ?_ _ | refine blk_drew ?_ | refine blk_alloc ?_ _)); exact BK114.out) Try.underlying27 rfl (by kernel_rfl)) rfl ?_
              exact ⟨_, by first | rfl | (simp [errW_none, errW_some] <;> rfl) | (simp [*, errW_none, errW_some] <;> rfl), by (with_reducible repeat (first | apply Kd.R_alloc | apply Kd.R_drewN | apply Kd.R_drew)); exact Kd.R_mono (Kd.R_far (p := ⟨gb114, 4, none⟩) (Kd.R_far (p := ⟨gb114, 3, none⟩) (Kd.R_far (p := ⟨gb114, 2, none⟩) (Kd.R_far (p := ⟨gb114, 1, none⟩) (Kd.R_far (p := ⟨gb114, 0, none⟩) (Kd.R_far (p := ⟨gb113, 3, none⟩) (Kd.R_mono (Kd.R_mono HO_3.out (fun k_ hk => (⟨hk, hk.2.1⟩ : _ ∧ k_ ≠ gb113))) (fun k_ hk => (⟨hk, hk.1.2.2⟩ : _ ∧ k_ ≠ gb114))) (fun _ hk => hk.1.2) (.slice Ao32 x3_1.length co32)) (fun _ hk => hk.2) (.int .u8 x114000_1)) (fun _ hk => hk.2) (.int .i64 x114001_1)) (fun _ hk => hk.2) (.string x114002_1)) (fun _ hk => hk.2) (.slice Ao32 x3_1.length co32)) (fun _ hk => hk.2) (.int .i64 x114004_1)) (fun _ hk => hk.1.1.1), by repeat (first | (with_reducible first | exact HB.out | apply below_alloc | apply pw_below_drewN | apply below_drew1 | refine below_set ?_ GE113.out | refine below_set ?_ GE114.out) | exact HB.out)⟩
      · rw [if_neg c9] at H
        exact absurd H (by simp)
    · rw [if_neg c8] at H
      exact absurd H (by simp)

-- NOT PRINTED: function 53 (value_Own)

-- NOT PRINTED: function 40 (brand_own)

-- NOT PRINTED: function 15 (brand_Table_Put)

-- NOT PRINTED: function 17 (brand_Table_Len)

end Go.Proofs.Ythkemcekcfccpaa.PBrandCompares

namespace Go.Proofs.Ythkemcekcfccpaa.PBrandCompares
open Go.RowKit Go.Proofs.YthkemcekcfccpaaW.PrintWords Go.Proofs.YthkemcekcfccpaaW.PrintLast Go.Proofs.YthkemcekcfccpaaW.PrintMore
open Go.Proofs.Ythkemcekcfccpaa.GBrandCompares
set_option linter.unusedVariables false
set_option linter.unusedSimpArgs false

/-- nested at most so deep, and no list longer than 511, whatever the kinds -/
def Small : Nat → S27 → Prop
  | 0, x => x.f3 = []
  | n + 1, x => x.f3.length ≤ 511 ∧ ∀ y ∈ x.f3, Small n y

theorem small_nil {x : S27} (h : x.f3 = []) (n : Nat) : Small n x := by
  cases n with
  | zero => exact h
  | succ n => simp [Small, h]

theorem take_small (n : Nat) : (∀ x : S27, SizeOf.sizeOf x ≤ n → ∀ p d, 0 ≤ p → p ≤ 512 → 0 ≤ d → (takeV x p d).1 = true → Small d.toNat x) ∧
    (∀ l : List S27, SizeOf.sizeOf l ≤ n → ∀ p d, 0 ≤ p → p ≤ 512 → 0 ≤ d → (takeL l p d).1 = true → ∀ y ∈ l, Small d.toNat y) := by
  induction n with
  | zero =>
    refine ⟨fun x hx => ?_, fun l hl => ?_⟩
    · cases x; simp at hx
    · cases l <;> simp at hl
  | succ n ih =>
    refine ⟨fun x hx p d hp hp2 hd ht => ?_, fun l hl p d hp hp2 hd ht => ?_⟩
    · by_cases hz : p = 0
      · rw [takeV_z hz] at ht; simp at ht
      by_cases h3 : x.f0 = 3
      · rw [takeV_3 hz h3] at ht
        split at ht
        · simp at ht
        · rename_i hn
          have hd1 : 1 ≤ d := by omega
          obtain ⟨m, hm⟩ : ∃ m, d.toNat = m + 1 := ⟨d.toNat - 1, by omega⟩
          rw [hm]
          refine ⟨by omega, ?_⟩
          have hs : SizeOf.sizeOf x.f3 ≤ n := by cases x; simp at hx ⊢; omega
          have h := ih.2 x.f3 hs (p - 1) (d - 1) (by omega) (by omega) (by omega)
          rw [show (d - 1).toNat = m by omega] at h
          apply h
          generalize takeL x.f3 (p - 1) (d - 1) = t at ht
          obtain ⟨b, p', d'⟩ := t
          cases b
          · simp at ht
          · rfl
      · have hnil : x.f3 = [] := by
          by_cases h0 : x.f0 = 0
          · rw [takeV_0 hz h0] at ht; simp at ht; exact ht.2.2.2
          by_cases h1 : x.f0 = 1
          · rw [takeV_1 hz h1] at ht; simp at ht; exact ht.2.2
          by_cases h2 : x.f0 = 2
          · rw [takeV_2 hz h2] at ht
            split at ht
            · simp at ht
            · simp at ht; exact ht.2.2
          by_cases h4 : x.f0 = 4
          · rw [takeV_4 hz h4] at ht
            split at ht
            · simp at ht
            · simp at ht; exact ht.2.2
          rw [takeV_5 hz h0 h1 h2 h4 h3] at ht; simp at ht
        exact small_nil hnil _
    · cases l with
      | nil => simp
      | cons x l =>
        have hx : SizeOf.sizeOf x ≤ n := by simp at hl; omega
        have hl : SizeOf.sizeOf l ≤ n := by simp at hl; omega
        unfold takeL at ht
        have hb := takeV_bounds x hp hd
        have h1 := ih.1 x hx p d hp hp2 hd
        generalize takeV x p d = t at ht hb h1
        obtain ⟨b, p', d'⟩ := t
        cases b
        · simp at ht
        · dsimp only at ht hb h1
          have h5 := hb.2.2.2.2 rfl
          subst h5
          have h2 := ih.2 l hl p' d' hb.1 (by omega) hd ht
          intro y hy
          rcases List.mem_cons.1 hy with rfl | hy
          · exact h1 rfl
          · exact h2 y hy

theorem may_small {x : S27} (h : mayV x = true) : Small 16 x := by
  refine (take_small _).1 x (Nat.le_refl _) 512 16 (by omega) (by omega) (by omega) ?_
  simp only [mayV, measureV, decide_eq_true_eq] at h
  split at h
  · assumption
  · simp at h

theorem le_own {j k : Nat} (h : j ≤ k) {x : S27} {r : Int × Int × ByteArray × List S27 × Int} (hr : value_own.f j x.f0 x.f1 x.f2 x.f3 x.f4 = some r) : value_own.f k x.f0 x.f1 x.f2 x.f3 x.f4 = some r := by
  induction h with
  | refl => exact hr
  | step _ ih => exact value_own.mono _ _ _ _ _ _ _ ih

/-- the loop, from element i on -/
theorem own_loop (xs : List S27) (hlen : xs.length ≤ 511) (a b : Int) (s : ByteArray) (r : Int) (l0 : List S27) (K : Nat) (hK : ∀ y ∈ xs, value_own.f K y.f0 y.f1 y.f2 y.f3 y.f4 = some (y.f0, y.f1, y.f2, y.f3, y.f4)) :
    ∀ (m i : Nat) (ys : List S27), i + m = xs.length → ys.length = xs.length → ys.take i = xs.take i →
      value_own.l0 (K + m + 1) ys xs (xs.length : Int) (i : Int) a b s l0 r = some (a, b, s, xs, r) := by
  intro m
  induction m with
  | zero =>
    intro i ys hi hy ht
    unfold value_own.l0
    rw [if_neg (by omega)]
    have : ys = xs := by
      have h1 : ys.take i = ys := List.take_of_length_le (by omega)
      have h2 : xs.take i = xs := List.take_of_length_le (by omega)
      rw [← h1, ht, h2]
    rw [this]
  | succ m ih =>
    intro i ys hi hy ht
    have hlt : i < xs.length := by omega
    rw [show K + (m + 1) + 1 = (K + m + 1) + 1 by omega]
    unfold value_own.l0
    rw [if_pos (by omega), if_pos (by omega), if_pos (by omega)]
    have hm := rd_mem (xs := xs) (i := i) hlt
    rw [le_own (x := rd_T27 xs (i : Int)) (show K ≤ K + m + 1 by omega) (hK _ hm)]
    simp only [Option.bind_some]
    rw [if_pos (by omega)]
    rw [show wrap64 ((i : Int) + 1) = ((i + 1 : Nat) : Int) by simp only [wrap64]; omega]
    refine ih (i + 1) _ (by omega) (by simpa using hy) ?_
    rw [Int.toNat_natCast]
    apply List.ext_getElem?
    intro j
    rw [List.getElem?_take, List.getElem?_take]
    by_cases hj : j < i + 1
    · rw [if_pos hj, if_pos hj]
      by_cases hji : i = j
      · subst hji
        rw [List.getElem?_set_self (by omega)]
        unfold rd_T27
        rw [Int.toNat_natCast, List.getD_eq_getElem?_getD, List.getElem?_eq_getElem hlt, Option.getD_some]
        generalize xs[i] = q
        cases q
        rfl
      · rw [List.getElem?_set_ne hji]
        have := congrArg (fun l => l[j]?) ht
        simp only [List.getElem?_take] at this
        rw [if_pos (by omega), if_pos (by omega)] at this
        exact this
    · rw [if_neg hj, if_neg hj]

theorem own_pure (n : Nat) : ∃ K, ∀ x : S27, Small n x → value_own.f K x.f0 x.f1 x.f2 x.f3 x.f4 = some (x.f0, x.f1, x.f2, x.f3, x.f4) := by
  induction n with
  | zero =>
    refine ⟨1, fun x hx => ?_⟩
    simp only [Small] at hx
    unfold value_own.f
    rw [hx]
    rfl
  | succ n ih =>
    obtain ⟨K, hK⟩ := ih
    refine ⟨K + 511 + 2, fun x hx => ?_⟩
    obtain ⟨hl, hy⟩ := hx
    unfold value_own.f
    split
    · rename_i h0
      rw [show x.f3 = [] from List.length_eq_zero_iff.1 (by omega)]
    · rw [if_pos (by omega), if_pos (by omega)]
      have h := own_loop x.f3 hl x.f0 x.f1 x.f2 x.f4 x.f3 (K + (511 - x.f3.length)) (fun y hm => le_own (by omega) (hK y (hy y hm))) x.f3.length 0 (List.replicate ((x.f3.length : Int)).toNat z27) (by omega) (by simp) (by simp)
      rw [show K + 511 + 1 = K + (511 - x.f3.length) + x.f3.length + 1 by omega]
      exact h

end Go.Proofs.Ythkemcekcfccpaa.PBrandCompares

namespace Go.Proofs.Ythkemcekcfccpaa.PBrandCompares
open Go.RowKit Go.Proofs.YthkemcekcfccpaaW.PrintWords Go.Proofs.YthkemcekcfccpaaW.PrintLast Go.Proofs.YthkemcekcfccpaaW.PrintMore
open Go.Proofs.Ythkemcekcfccpaa.GBrandCompares
set_option linter.unusedVariables false
set_option linter.unusedSimpArgs false

theorem size27 : (Try.prog.info? 27).map (·.size) = some 5 := by kernel_rfl
/-- a value's own struct written over, field by field -/
theorem put27 {w : World} {g : Nat} {cs : Array Value} (h : w.heap[g]? = some (.cells cs 27 (0, 0))) (hs : cs.size = 5) (a b c d e : Value) :
    (((((w.setCell ⟨g, 0, none⟩ a).setCell ⟨g, 1, none⟩ b).setCell ⟨g, 2, none⟩ c).setCell ⟨g, 3, none⟩ d).setCell ⟨g, 4, none⟩ e).heap[g]? = some (.cells #[a, b, c, d, e] 27 (0, 0)) := by
  obtain ⟨l⟩ := cs
  match l, hs with
  | [_, _, _, _, _], _ => exact blk_put (blk_put (blk_put (blk_put (blk_put h 0 _ rfl) 1 _ rfl) 2 _ rfl) 3 _ rfl) 4 _ rfl
theorem ex_put27 {S : Nat → Prop} {w0 w : World} {g : Nat} (h : Ex S w0 w) (hg : S g ∨ w0.heap.size ≤ g) (a b c d e : Value) :
    Ex S w0 (((((w.setCell ⟨g, 0, none⟩ a).setCell ⟨g, 1, none⟩ b).setCell ⟨g, 2, none⟩ c).setCell ⟨g, 3, none⟩ d).setCell ⟨g, 4, none⟩ e) :=
  ((((h.set (p := ⟨g, 0, none⟩) hg a).set (p := ⟨g, 1, none⟩) hg b).set (p := ⟨g, 2, none⟩) hg c).set (p := ⟨g, 3, none⟩) hg d).set (p := ⟨g, 4, none⟩) hg e

/-- what such a call answers: the value, of memory of its own -/
def Owned (x : S27) (w : World) (v : Value) (w' : World) : Prop :=
  ∃ (A : Option Addr) (c : Nat), v = .agg #[.int .u8 x.f0, .int .i64 x.f1, .string x.f2, .slice A x.f3.length c, .int .i64 x.f4] ∧ x.f3.length ≤ c ∧ Kd.R k27 27 w' w.heap.size (fun k => w.heap.size ≤ k) (.slice A x.f3.length c) x.f3 ∧ Ex (fun _ => False) w w'

theorem vown_calls (x : S27) (A : Option Addr) (c : Nat) (w : World) (ok : Nat → Prop) (hc : x.f3.length ≤ c) (hF : Kd.F k27 w ok A x.f3.length x.f3) (hm : mayV x = true) :
    Calls Try.prog 56 #[.agg #[.int .u8 x.f0, .int .i64 x.f1, .string x.f2, .slice A x.f3.length c, .int .i64 x.f4]] w fun e w' => ∃ v, e = .returned v ∧ Owned x w v w' := by
  obtain ⟨K, hK⟩ := own_pure 16
  refine (value_own.calls K x.f0 x.f1 x.f2 ok A c x.f3 x.f4 _ _ _ _ _ w (Kd.V_mk hc hF) (hK x (may_small hm))).mono ?_
  rintro e w1 ⟨v3, rfl, hR, hB⟩
  obtain ⟨A3, c3, rfl, l3, _⟩ := Kd.R_reads hR
  exact ⟨_, rfl, A3, c3, rfl, l3, hR, Ex.of_below hB⟩

set_option maxHeartbeats 400000 in
/-- value.Own -/
theorem Own_calls (x : S27) (A : Option Addr) (c : Nat) (w : World) (ok : Nat → Prop) (hc : x.f3.length ≤ c) (hF : Kd.F k27 w ok A x.f3.length x.f3) (hm : mayV x = true) :
    Calls Try.prog 53 #[.agg #[.int .u8 x.f0, .int .i64 x.f1, .string x.f2, .slice A x.f3.length c, .int .i64 x.f4]] w fun e w' => ∃ v, e = .returned (.tuple #[v, .int .i64 0]) ∧ Owned x w v w' := by
  have HF := Aside0.mk hF
  have HM := Aside0.mk hm
  have HC := Aside0.mk hc
  clear hF hm hc
  go_enter Try.func53, Try.ntmps53
  go_wp2_with fail
  refine (may_calls x A c _ ok (Kd.F_alloc (Kd.F_alloc HF.out _) _)).mono ?_
  rintro e w1 ⟨rfl, hx1⟩
  have hm' := HM.out
  rw [hm']
  clear hm'
  obtain ⟨hc, hf⟩ := hx1.cells
  have HF1 := Aside0.mk (ex_F hx1 (Kd.F_alloc (Kd.F_alloc HF.out _) _) (fun _ _ h => h))
  have HB1 := Aside0.mk (hx1.blk (blk_new2 w _ _) (fun h => h))
  have HX1 := Aside0.mk ((((Ex.refl (fun _ => False) w).alloc _).alloc _).trans hx1 (fun _ h => h.elim))
  clear hx1
  go_wp2_with fail
  refine (vown_calls x A c _ ok HC.out HF1.out HM.out).mono ?_
  rintro e w2 ⟨v, rfl, A3, c3, rfl, l3, hR, hx2⟩
  have HB2 := Aside0.mk (hx2.blk HB1.out (fun h => h))
  have h0 := (blk_cell HB2.out 0).trans rfl
  have h1 := (blk_cell HB2.out 1).trans rfl
  have h2 := (blk_cell HB2.out 2).trans rfl
  have h3 := (blk_cell HB2.out 3).trans rfl
  have h4 := (blk_cell HB2.out 4).trans rfl
  have f0 := blk_frozen HB2.out 0
  have f1 := blk_frozen HB2.out 1
  have f2 := blk_frozen HB2.out 2
  have f3 := blk_frozen HB2.out 3
  have f4 := blk_frozen HB2.out 4
  have hl2 := lt_of_blk HB2.out
  have HH := Aside0.mk (And.intro l3 (And.intro hR (HX1.out.trans hx2 (fun _ h => h.elim))))
  clear l3 hR hx2 hc hf
  go_wp2_with fail
  refine bodyPost_ret (results_row_tmp rfl _ _ (w.heap.size + 1) 27 _ (0, 0) _ rfl (put27 HB2.out rfl _ _ _ _ _) Try.underlying27 rfl size27) rfl ?_
  refine ⟨_, rfl, A3, c3, rfl, HH.out.1, ?_, ?_⟩
  · have hR := Kd.R_lower (Kd.R_mono (Kd.R_bound HH.out.2.1) (fun k hk => (show w.heap.size ≤ k ∧ k ≠ w.heap.size + 1 by have := hk.1; have := HX1.out.size; have := lt_of_blk HB1.out; omega))) HX1.out.size
    refine Kd.R_mono (Kd.R_step hR ?_) (fun k hk => hk.1)
    intro k hk hlt
    exact (ex_put27 (Ex.refl (fun b => b = w.heap.size + 1) _) (.inl rfl) _ _ _ _ _).block k hlt hk.2
  · exact ex_put27 HH.out.2.2 (.inr (Nat.le_succ _)) _ _ _ _ _

set_option maxHeartbeats 400000 in
/-- brand.own -/
theorem own_calls (x : S27) (A : Option Addr) (c : Nat) (w : World) (ok : Nat → Prop) (hc : x.f3.length ≤ c) (hF : Kd.F k27 w ok A x.f3.length x.f3) (hm : mayV x = true) :
    Calls Try.prog 40 #[.agg #[.int .u8 x.f0, .int .i64 x.f1, .string x.f2, .slice A x.f3.length c, .int .i64 x.f4]] w fun e w' => ∃ v, e = .returned v ∧ Owned x w v w' := by
  have HF := Aside0.mk hF
  have HM := Aside0.mk hm
  have HC := Aside0.mk hc
  clear hF hm hc
  go_enter Try.func40, Try.ntmps40
  go_wp2_with fail
  refine (Own_calls x A c _ ok HC.out (Kd.F_alloc (Kd.F_alloc HF.out _) _) HM.out).mono ?_
  rintro e w1 ⟨v, rfl, A3, c3, rfl, l3, hR, hx1⟩
  have HB1 := Aside0.mk (hx1.blk (blk_new2 w _ _) (fun h => h))
  have HX1 := Aside0.mk ((((Ex.refl (fun _ => False) w).alloc _).alloc _).trans hx1 (fun _ h => h.elim))
  have h0 := (blk_cell HB1.out 0).trans rfl
  have h1 := (blk_cell HB1.out 1).trans rfl
  have h2 := (blk_cell HB1.out 2).trans rfl
  have h3 := (blk_cell HB1.out 3).trans rfl
  have h4 := (blk_cell HB1.out 4).trans rfl
  have f0 := blk_frozen HB1.out 0
  have f1 := blk_frozen HB1.out 1
  have f2 := blk_frozen HB1.out 2
  have f3 := blk_frozen HB1.out 3
  have f4 := blk_frozen HB1.out 4
  have hl1 := lt_of_blk HB1.out
  have HH := Aside0.mk (And.intro l3 hR)
  clear l3 hR hx1
  go_wp2_with fail
  refine bodyPost_ret (results_cell_row rfl _ _ (w.heap.size + 1) 27 _ (0, 0) _ rfl (blk_alloc (put27 HB1.out rfl _ _ _ _ _) _) Try.underlying27 rfl size27) rfl ?_
  refine ⟨_, rfl, A3, c3, rfl, HH.out.1, ?_, ?_⟩
  · have hR := Kd.R_lower (Kd.R_mono (Kd.R_bound HH.out.2) (fun k hk => (show w.heap.size ≤ k ∧ k ≠ w.heap.size + 1 by have := hk.1; simp at this; omega))) (show w.heap.size ≤ _ by simp; omega)
    refine Kd.R_mono (Kd.R_step hR ?_) (fun k hk => hk.1)
    intro k hk hlt
    exact ((ex_put27 (Ex.refl (fun b => b = w.heap.size + 1) _) (.inl rfl) _ _ _ _ _).alloc _).block k hlt hk.2
  · exact (ex_put27 HX1.out (.inr (Nat.le_succ _)) _ _ _ _ _).alloc _

end Go.Proofs.Ythkemcekcfccpaa.PBrandCompares

namespace Go.Proofs.Ythkemcekcfccpaa.PBrandCompares
open Go.RowKit Go.Proofs.YthkemcekcfccpaaW.PrintWords Go.Proofs.YthkemcekcfccpaaW.PrintLast Go.Proofs.YthkemcekcfccpaaW.PrintMore
open Go.Proofs.Ythkemcekcfccpaa.GBrandCompares
set_option linter.unusedVariables false
set_option linter.unusedSimpArgs false

/-- what stands under a mark: the mark, the key, the value, which one came; where their lists lie; the two entries' stamps -/
structure Row where
  m : Mk
  k : S27
  v : S27
  A : Option Addr
  ca : Nat
  B : Option Addr
  cb : Nat
  n : Nat
  b1 : Nat
  b2 : Nat

def Row.val (r : Row) : Value := .agg #[.int .u8 r.k.f0, .int .i64 r.k.f1, .string r.k.f2, .slice r.A r.k.f3.length r.ca, .int .i64 r.k.f4, .int .u8 r.v.f0, .int .i64 r.v.f1, .string r.v.f2, .slice r.B r.v.f3.length r.cb, .int .i64 r.v.f4, .int .i64 r.n]
def Row.e1 (r : Row) : MapEntry := { key := r.m.val, val := r.val, born := r.b1 }
def Row.e2 (r : Row) : MapEntry := { key := .int .i64 r.n, val := r.m.val, born := r.b2 }

/-- a row is good, over a world's blocks T -/
structure Row.Good (w : World) (T : Nat → Prop) (r : Row) : Prop where
  mark : MarkOf r.k r.m
  key : Key r.m
  mayk : mayV r.k = true
  mayv : mayV r.v = true
  lk : r.k.f3.length ≤ r.ca
  lv : r.v.f3.length ≤ r.cb
  fk : Kd.F k27 w T r.A r.k.f3.length r.k.f3
  fv : Kd.F k27 w T r.B r.v.f3.length r.v.f3

/-- the memory at g is a table: T has its blocks -/
structure Tab (w : World) (g mb ob : Nat) (T : Nat → Prop) (rows : List Row) (came : Nat) : Prop where
  hg : w.heap[g]? = some (.cells #[.map (some mb), .map (some ob), .int .i64 came] 66 (0, 0))
  hm : ∃ es c, w.heap[mb]? = some (.map es c) ∧ es.toList = rows.map Row.e1
  ho : ∃ es c, w.heap[ob]? = some (.map es c) ∧ es.toList = rows.map Row.e2
  good : ∀ r ∈ rows, r.Good w (fun b => T b ∧ b ≠ g ∧ b ≠ mb ∧ b ≠ ob)
  tg : T g
  tm : T mb
  tb : T ob
  ne : mb ≠ ob
  nums : ∀ r ∈ rows, 1 ≤ r.n ∧ r.n ≤ came
  marks : rows.Pairwise (fun r s => r.m ≠ s.m)
  cames : rows.Pairwise (fun r s => r.n ≠ s.n)

theorem Row.Good.ex {S T : Nat → Prop} {w w1 : World} {r : Row} (h : r.Good w T) (hx : Ex S w w1) (hs : ∀ b, T b → ¬ S b) : r.Good w1 T :=
  { h with fk := ex_F hx h.fk hs, fv := ex_F hx h.fv hs }
theorem Row.Good.mono {T T' : Nat → Prop} {w : World} {r : Row} (h : r.Good w T) (ht : ∀ b, T b → T' b) : r.Good w T' :=
  { h with fk := Kd.F_mono h.fk ht, fv := Kd.F_mono h.fv ht }

/-- what turns none of its blocks leaves a table a table -/
theorem Tab.ex {S T : Nat → Prop} {w w1 : World} {g mb ob : Nat} {rows : List Row} {came : Nat} (h : Tab w g mb ob T rows came) (hx : Ex S w w1) (hs : ∀ b, T b → ¬ S b) : Tab w1 g mb ob T rows came :=
  { h with
    hg := hx.blk h.hg (hs _ h.tg)
    hm := let ⟨es, c, h1, h2⟩ := h.hm; ⟨es, c, hx.blk h1 (hs _ h.tm), h2⟩
    ho := let ⟨es, c, h1, h2⟩ := h.ho; ⟨es, c, hx.blk h1 (hs _ h.tb), h2⟩
    good := fun r hr => (h.good r hr).ex hx (fun b hb => hs b hb.1) }
theorem Tab.ex0 {T : Nat → Prop} {w w1 : World} {g mb ob : Nat} {rows : List Row} {came : Nat} (h : Tab w g mb ob T rows came) (hx : Ex (fun _ => False) w w1) : Tab w1 g mb ob T rows came := h.ex hx (fun _ _ h => h)
theorem Tab.mono {T T' : Nat → Prop} {w : World} {g mb ob : Nat} {rows : List Row} {came : Nat} (h : Tab w g mb ob T rows came) (ht : ∀ b, T b → T' b) : Tab w g mb ob T' rows came :=
  { h with tg := ht _ h.tg, tm := ht _ h.tm, tb := ht _ h.tb, good := fun r hr => (h.good r hr).mono (fun b hb => ⟨ht b hb.1, hb.2⟩) }

theorem Tab.keys_map {T : Nat → Prop} {w : World} {g mb ob : Nat} {rows : List Row} {came : Nat} (h : Tab w g mb ob T rows came) {es : Array MapEntry} (he : es.toList = rows.map Row.e1) : es.toList.map (·.key) = (rows.map (·.m)).map Mk.val := by
  rw [he]; simp [Row.e1]
theorem Tab.key_all {T : Nat → Prop} {w : World} {g mb ob : Nat} {rows : List Row} {came : Nat} (h : Tab w g mb ob T rows came) : ∀ m ∈ rows.map (·.m), Key m := by
  intro m hm
  obtain ⟨r, hr, rfl⟩ := List.mem_map.1 hm
  exact (h.good r hr).key

/-- nothing under any mark -/
def zrow : Row := ⟨.nothing, z27, z27, none, 0, none, 0, 0, 0, 0⟩
theorem info78 : (Try.prog.info? 78).map (fun i => (i.zero, i.size, i.bytes)) = some (some zrow.val, 11, 136) := by kernel_rfl

/-- a table's entry written over, field by field -/
theorem put78 {w : World} {g : Nat} {x0 x1 x2 x3 x4 x5 x6 x7 x8 x9 x10 : Value} (h : w.heap[g]? = some (.cells #[x0, x1, x2, x3, x4, x5, x6, x7, x8, x9, x10] 78 (0, 0))) (a0 a1 a2 a3 a4 a5 a6 a7 a8 a9 a10 : Value) : (((((((((((w.setCell ⟨g, 0, none⟩ a0).setCell ⟨g, 1, none⟩ a1).setCell ⟨g, 2, none⟩ a2).setCell ⟨g, 3, none⟩ a3).setCell ⟨g, 4, none⟩ a4).setCell ⟨g, 5, none⟩ a5).setCell ⟨g, 6, none⟩ a6).setCell ⟨g, 7, none⟩ a7).setCell ⟨g, 8, none⟩ a8).setCell ⟨g, 9, none⟩ a9).setCell ⟨g, 10, none⟩ a10).heap[g]? = some (.cells #[a0, a1, a2, a3, a4, a5, a6, a7, a8, a9, a10] 78 (0, 0)) := by
  have h0 : (w.setCell ⟨g, 0, none⟩ a0).heap[g]? = some (.cells #[a0, x1, x2, x3, x4, x5, x6, x7, x8, x9, x10] 78 (0, 0)) := blk_put h 0 _ rfl
  have h1 : ((w.setCell ⟨g, 0, none⟩ a0).setCell ⟨g, 1, none⟩ a1).heap[g]? = some (.cells #[a0, a1, x2, x3, x4, x5, x6, x7, x8, x9, x10] 78 (0, 0)) := blk_put h0 1 _ rfl
  have h2 : (((w.setCell ⟨g, 0, none⟩ a0).setCell ⟨g, 1, none⟩ a1).setCell ⟨g, 2, none⟩ a2).heap[g]? = some (.cells #[a0, a1, a2, x3, x4, x5, x6, x7, x8, x9, x10] 78 (0, 0)) := blk_put h1 2 _ rfl
  have h3 : ((((w.setCell ⟨g, 0, none⟩ a0).setCell ⟨g, 1, none⟩ a1).setCell ⟨g, 2, none⟩ a2).setCell ⟨g, 3, none⟩ a3).heap[g]? = some (.cells #[a0, a1, a2, a3, x4, x5, x6, x7, x8, x9, x10] 78 (0, 0)) := blk_put h2 3 _ rfl
  have h4 : (((((w.setCell ⟨g, 0, none⟩ a0).setCell ⟨g, 1, none⟩ a1).setCell ⟨g, 2, none⟩ a2).setCell ⟨g, 3, none⟩ a3).setCell ⟨g, 4, none⟩ a4).heap[g]? = some (.cells #[a0, a1, a2, a3, a4, x5, x6, x7, x8, x9, x10] 78 (0, 0)) := blk_put h3 4 _ rfl
  have h5 : ((((((w.setCell ⟨g, 0, none⟩ a0).setCell ⟨g, 1, none⟩ a1).setCell ⟨g, 2, none⟩ a2).setCell ⟨g, 3, none⟩ a3).setCell ⟨g, 4, none⟩ a4).setCell ⟨g, 5, none⟩ a5).heap[g]? = some (.cells #[a0, a1, a2, a3, a4, a5, x6, x7, x8, x9, x10] 78 (0, 0)) := blk_put h4 5 _ rfl
  have h6 : (((((((w.setCell ⟨g, 0, none⟩ a0).setCell ⟨g, 1, none⟩ a1).setCell ⟨g, 2, none⟩ a2).setCell ⟨g, 3, none⟩ a3).setCell ⟨g, 4, none⟩ a4).setCell ⟨g, 5, none⟩ a5).setCell ⟨g, 6, none⟩ a6).heap[g]? = some (.cells #[a0, a1, a2, a3, a4, a5, a6, x7, x8, x9, x10] 78 (0, 0)) := blk_put h5 6 _ rfl
  have h7 : ((((((((w.setCell ⟨g, 0, none⟩ a0).setCell ⟨g, 1, none⟩ a1).setCell ⟨g, 2, none⟩ a2).setCell ⟨g, 3, none⟩ a3).setCell ⟨g, 4, none⟩ a4).setCell ⟨g, 5, none⟩ a5).setCell ⟨g, 6, none⟩ a6).setCell ⟨g, 7, none⟩ a7).heap[g]? = some (.cells #[a0, a1, a2, a3, a4, a5, a6, a7, x8, x9, x10] 78 (0, 0)) := blk_put h6 7 _ rfl
  have h8 : (((((((((w.setCell ⟨g, 0, none⟩ a0).setCell ⟨g, 1, none⟩ a1).setCell ⟨g, 2, none⟩ a2).setCell ⟨g, 3, none⟩ a3).setCell ⟨g, 4, none⟩ a4).setCell ⟨g, 5, none⟩ a5).setCell ⟨g, 6, none⟩ a6).setCell ⟨g, 7, none⟩ a7).setCell ⟨g, 8, none⟩ a8).heap[g]? = some (.cells #[a0, a1, a2, a3, a4, a5, a6, a7, a8, x9, x10] 78 (0, 0)) := blk_put h7 8 _ rfl
  have h9 : ((((((((((w.setCell ⟨g, 0, none⟩ a0).setCell ⟨g, 1, none⟩ a1).setCell ⟨g, 2, none⟩ a2).setCell ⟨g, 3, none⟩ a3).setCell ⟨g, 4, none⟩ a4).setCell ⟨g, 5, none⟩ a5).setCell ⟨g, 6, none⟩ a6).setCell ⟨g, 7, none⟩ a7).setCell ⟨g, 8, none⟩ a8).setCell ⟨g, 9, none⟩ a9).heap[g]? = some (.cells #[a0, a1, a2, a3, a4, a5, a6, a7, a8, a9, x10] 78 (0, 0)) := blk_put h8 9 _ rfl
  have h10 : (((((((((((w.setCell ⟨g, 0, none⟩ a0).setCell ⟨g, 1, none⟩ a1).setCell ⟨g, 2, none⟩ a2).setCell ⟨g, 3, none⟩ a3).setCell ⟨g, 4, none⟩ a4).setCell ⟨g, 5, none⟩ a5).setCell ⟨g, 6, none⟩ a6).setCell ⟨g, 7, none⟩ a7).setCell ⟨g, 8, none⟩ a8).setCell ⟨g, 9, none⟩ a9).setCell ⟨g, 10, none⟩ a10).heap[g]? = some (.cells #[a0, a1, a2, a3, a4, a5, a6, a7, a8, a9, a10] 78 (0, 0)) := blk_put h9 10 _ rfl
  exact h10
theorem ex_put78 {S : Nat → Prop} {w0 w : World} {g : Nat} (h : Ex S w0 w) (hg : S g ∨ w0.heap.size ≤ g) (a0 a1 a2 a3 a4 a5 a6 a7 a8 a9 a10 : Value) : Ex S w0 (((((((((((w.setCell ⟨g, 0, none⟩ a0).setCell ⟨g, 1, none⟩ a1).setCell ⟨g, 2, none⟩ a2).setCell ⟨g, 3, none⟩ a3).setCell ⟨g, 4, none⟩ a4).setCell ⟨g, 5, none⟩ a5).setCell ⟨g, 6, none⟩ a6).setCell ⟨g, 7, none⟩ a7).setCell ⟨g, 8, none⟩ a8).setCell ⟨g, 9, none⟩ a9).setCell ⟨g, 10, none⟩ a10) :=
  (((((((((((h.set (p := ⟨g, 0, none⟩) hg a0).set (p := ⟨g, 1, none⟩) hg a1).set (p := ⟨g, 2, none⟩) hg a2).set (p := ⟨g, 3, none⟩) hg a3).set (p := ⟨g, 4, none⟩) hg a4).set (p := ⟨g, 5, none⟩) hg a5).set (p := ⟨g, 6, none⟩) hg a6).set (p := ⟨g, 7, none⟩) hg a7).set (p := ⟨g, 8, none⟩) hg a8).set (p := ⟨g, 9, none⟩) hg a9).set (p := ⟨g, 10, none⟩) hg a10)

/-- the map of the order, one more behind all -/
theorem find_order (k : Int) : ∀ (l : List MapEntry) (i : Nat), (∀ e ∈ l, ∃ n : Int, e.key = .int .i64 n ∧ n ≠ k) → Instr.findNow (.int .i64) (.int .i64 k) l i = some none
  | [], _, _ => rfl
  | e :: l, i, h => by
    obtain ⟨n, he, hn⟩ := h e (.head _)
    unfold Instr.findNow
    rw [he]
    simp only [Instr.sameNow, if_true]
    rw [show ((k == n) : Bool) = false by simpa using Ne.symm hn]
    exact find_order k l (i + 1) (fun e he => h e (.tail _ he))
theorem run_order {w : World} {r clock : Nat} {es : Array MapEntry} {rows : List Row} {came : Nat} (hb : w.heap[r]? = some (.map es clock)) (hes : es.toList = rows.map Row.e2) (hn : ∀ r ∈ rows, 1 ≤ r.n ∧ r.n ≤ came) (v : Value) :
    (Instr.mapUpdate 64 (.map (some r)) (.int .i64 ((came : Int) + 1)) v).run Try.prog w = .ok () (setB w r (.map (es.push { key := .int .i64 ((came : Int) + 1), val := v, born := clock }) (clock + 1))) := by
  unfold Instr.mapUpdate
  rw [Sem.run_bind, run_underlying Try.underlying64, Result.andThen_ok]
  have hc : (Instr.checkKey false 10000 3 (.int .i64 ((came : Int) + 1))).run Try.prog w = .ok () w := check_int Try.underlying3 false 9999 _ w
  have hf : (Instr.findKey 3 (.int .i64 ((came : Int) + 1)) es.toList).run Try.prog w = .ok none w := Go.MapKept.run_findKey Try.underlying3 (find_order _ _ _ (by
    rw [hes]
    intro e he
    obtain ⟨r, hr, rfl⟩ := List.mem_map.1 he
    exact ⟨r.n, rfl, by have := hn r hr; omega⟩))
  simp only [Sem.run_bind, Go.MapKept.run_getObj_map hb, Result.andThen_ok, Sem.run_pure, hc, hf]
  exact Go.MapKept.run_setObj_map _ hb

theorem put78v {w : World} {g : Nat} {x0 x1 x2 x3 x4 x5 x6 x7 x8 x9 x10 : Value} (h : w.heap[g]? = some (.cells #[x0, x1, x2, x3, x4, x5, x6, x7, x8, x9, x10] 78 (0, 0))) (a5 a6 a7 a8 a9 : Value) : (((((w.setCell ⟨g, 5, none⟩ a5).setCell ⟨g, 6, none⟩ a6).setCell ⟨g, 7, none⟩ a7).setCell ⟨g, 8, none⟩ a8).setCell ⟨g, 9, none⟩ a9).heap[g]? = some (.cells #[x0, x1, x2, x3, x4, a5, a6, a7, a8, a9, x10] 78 (0, 0)) := by
  have h5 : (w.setCell ⟨g, 5, none⟩ a5).heap[g]? = some (.cells #[x0, x1, x2, x3, x4, a5, x6, x7, x8, x9, x10] 78 (0, 0)) := blk_put h 5 _ rfl
  have h6 : ((w.setCell ⟨g, 5, none⟩ a5).setCell ⟨g, 6, none⟩ a6).heap[g]? = some (.cells #[x0, x1, x2, x3, x4, a5, a6, x7, x8, x9, x10] 78 (0, 0)) := blk_put h5 6 _ rfl
  have h7 : (((w.setCell ⟨g, 5, none⟩ a5).setCell ⟨g, 6, none⟩ a6).setCell ⟨g, 7, none⟩ a7).heap[g]? = some (.cells #[x0, x1, x2, x3, x4, a5, a6, a7, x8, x9, x10] 78 (0, 0)) := blk_put h6 7 _ rfl
  have h8 : ((((w.setCell ⟨g, 5, none⟩ a5).setCell ⟨g, 6, none⟩ a6).setCell ⟨g, 7, none⟩ a7).setCell ⟨g, 8, none⟩ a8).heap[g]? = some (.cells #[x0, x1, x2, x3, x4, a5, a6, a7, a8, x9, x10] 78 (0, 0)) := blk_put h7 8 _ rfl
  have h9 : (((((w.setCell ⟨g, 5, none⟩ a5).setCell ⟨g, 6, none⟩ a6).setCell ⟨g, 7, none⟩ a7).setCell ⟨g, 8, none⟩ a8).setCell ⟨g, 9, none⟩ a9).heap[g]? = some (.cells #[x0, x1, x2, x3, x4, a5, a6, a7, a8, a9, x10] 78 (0, 0)) := blk_put h8 9 _ rfl
  exact h9
theorem ex_put78v {S : Nat → Prop} {w0 w : World} {g : Nat} (h : Ex S w0 w) (hg : S g ∨ w0.heap.size ≤ g) (a5 a6 a7 a8 a9 : Value) : Ex S w0 (((((w.setCell ⟨g, 5, none⟩ a5).setCell ⟨g, 6, none⟩ a6).setCell ⟨g, 7, none⟩ a7).setCell ⟨g, 8, none⟩ a8).setCell ⟨g, 9, none⟩ a9) :=
  (((((h.set (p := ⟨g, 5, none⟩) hg a5).set (p := ⟨g, 6, none⟩) hg a6).set (p := ⟨g, 7, none⟩) hg a7).set (p := ⟨g, 8, none⟩) hg a8).set (p := ⟨g, 9, none⟩) hg a9)

theorem posMk_none {a : Mk} {ms : List Mk} (ha : a.keys = true) (h : posMk a ms = none) : ∀ m ∈ ms, m ≠ a := by
  rintro m hm rfl
  unfold posMk at h
  have := List.findIdx?_eq_none_iff.1 h m hm
  rcases cmp_keys m m ha ha with ⟨h1, _⟩ | ⟨_, h1⟩
  · rw [h1] at this; simp at this
  · exact h1 rfl
theorem R_F {w : World} {base c : Nat} {ok : Nat → Prop} {A : Option Addr} {xs : List S27} (h : Kd.R k27 27 w base ok (.slice A xs.length c) xs) : Kd.F k27 w ok A xs.length xs := Kd.V_F (Kd.R_V (base' := 0) h)

/-- the map of the marks, one more behind all -/
theorem run_new {w : World} {r clock : Nat} {es : Array MapEntry} {ms : List Mk} {a : Mk} (hb : w.heap[r]? = some (.map es clock)) (ha : Key a) (hm : ∀ m ∈ ms, Key m) (hl : es.toList.map (·.key) = ms.map Mk.val) (hp : posMk a ms = none) (v : Value) :
    (Instr.mapUpdate 63 (.map (some r)) a.val v).run Try.prog w = .ok () (setB w r (.map (es.push { key := a.val, val := v, born := clock }) (clock + 1))) := by
  have h := run_put 63 78 Try.underlying63 hb ha hm hl v
  rw [hp] at h
  exact h
/-- .. one that is there written over -/
theorem run_old {w : World} {r clock : Nat} {es : Array MapEntry} {ms : List Mk} {a : Mk} {j : Nat} (hb : w.heap[r]? = some (.map es clock)) (ha : Key a) (hm : ∀ m ∈ ms, Key m) (hl : es.toList.map (·.key) = ms.map Mk.val) (hp : posMk a ms = some j) (v : Value) :
    (Instr.mapUpdate 63 (.map (some r)) a.val v).run Try.prog w = .ok () (setB w r (.map (es.modify j fun e => { e with key := a.val, val := v }) clock)) := by
  have h := run_put 63 78 Try.underlying63 hb ha hm hl v
  rw [hp] at h
  exact h

end Go.Proofs.Ythkemcekcfccpaa.PBrandCompares

namespace Go.Proofs.Ythkemcekcfccpaa.PBrandCompares
open Go.RowKit Go.Proofs.YthkemcekcfccpaaW.PrintWords Go.Proofs.YthkemcekcfccpaaW.PrintLast Go.Proofs.YthkemcekcfccpaaW.PrintMore
open Go.Proofs.Ythkemcekcfccpaa.GBrandCompares
set_option linter.unusedVariables false
set_option linter.unusedSimpArgs false

theorem put_new_end {x y : S27} {g mb ob : Nat} {T : Nat → Prop} {rows : List Row} {came : Nat} {m : Mk} {w w3 w4 w6 w7 w9 w10 w11 w12 : World} {A1 B1 : Option Addr} {c1 d1 n8 cl cl2 : Nat} {es es2 : Array MapEntry} {t1 : TypeId} {u1 : Value} {cs : Array Value}
    (HT : Tab w g mb ob T rows came) (HX3 : Ex (fun _ => False) w w3) (HX4 : Ex (fun b => b = g) w3 w4) (h34 : w3.heap.size < w4.heap.size) (HX46 : Ex (fun b => b = w3.heap.size) w4 w6) (HX67 : Ex (fun b => b = ob) w6 w7)
    (HX79 : Ex (fun b => b = w.heap.size + 1 + 1) w7 w9) (HX910 : Ex (fun b => b = w3.heap.size) w9 w10) (HX1011 : Ex (fun b => b = mb) w10 w11) (HX1112 : Ex (fun b => b = w.heap.size + 1 + 1) w11 w12) (hb : w.heap.size + 1 + 1 < w3.heap.size)
    (HG11 : w11.heap[g]? = some (.cells cs 66 (0, 0))) (hcs : cs = #[.map (some mb), .map (some ob), .int .i64 ((came : Int) + 1)])
    (HMB11 : w11.heap[mb]? = some (.map (es.push { key := .iface t1 u1, val := .agg #[.int .u8 x.f0, .int .i64 x.f1, .string x.f2, .slice A1 x.f3.length c1, .int .i64 x.f4, .int .u8 y.f0, .int .i64 y.f1, .string y.f2, .slice B1 y.f3.length d1, .int .i64 y.f4, .int .i64 ((came : Int) + 1)], born := cl }) (cl + 1)))
    (HOB11 : w11.heap[ob]? = some (.map (es2.push { key := .int .i64 ((came : Int) + 1), val := .iface t1 u1, born := cl2 }) (cl2 + 1)))
    (HES : es.toList = rows.map Row.e1) (HES2 : es2.toList = rows.map Row.e2) (HU : m.val = .iface t1 u1) (H1 : MarkOf x m) (HKEY : Key m) (HP : posMk m (rows.map (·.m)) = none) (HM : mayV x = true) (HN : mayV y = true) (HL1 : x.f3.length ≤ c1) (HL2 : y.f3.length ≤ d1)
    (HR9 : Kd.R k27 27 w9 w4.drew.heap.size (fun b => w4.heap.size ≤ b) (.slice A1 x.f3.length c1) x.f3) (HR29 : Kd.R k27 27 w9 n8 (fun b => n8 ≤ b) (.slice B1 y.f3.length d1) y.f3) (h8 : w7.heap.size ≤ n8) :
    Ex (fun b => b = g ∨ b = mb ∨ b = ob) w w12 ∧ ∃ r : Row, r.m = m ∧ r.k = x ∧ r.v = y ∧ r.n = came + 1 ∧ Tab w12 g mb ob (fun b => T b ∨ w.heap.size ≤ b) (rows ++ [r]) (came + 1) := by
  have hg : g < w.heap.size := lt_of_blk HT.hg
  have hmb : mb < w.heap.size := let ⟨_, _, h, _⟩ := HT.hm; lt_of_blk h
  have hob : ob < w.heap.size := let ⟨_, _, h, _⟩ := HT.ho; lt_of_blk h
  have h3 := HX3.size
  have h4 := HX4.size
  have h6 := HX46.size
  have h7 := HX67.size
  have h9 := HX79.size
  have h10 := HX910.size
  have h11 := HX1011.size
  have X4 : Ex (fun b => b = g ∨ b = mb ∨ b = ob) w w4 := (HX3.mono (fun _ h => h.elim)).trans HX4 (fun b hb => .inl (.inl hb))
  have X6 := X4.trans HX46 (fun b hb => .inr (by rw [hb]; exact h3))
  have X7 := X6.trans HX67 (fun b hb => .inl (.inr (.inr hb)))
  have X9 := X7.trans HX79 (fun b hb => .inr (by omega))
  have X10 := X9.trans HX910 (fun b hb => .inr (by omega))
  have X11 := X10.trans HX1011 (fun b hb => .inl (.inr (.inl hb)))
  have X12 := X11.trans HX1112 (fun b hb => .inr (by omega))
  have X912 : Ex (fun b => b = w3.heap.size ∨ b = mb ∨ b = w.heap.size + 1 + 1) w9 w12 := ((HX910.mono (fun _ h => .inl h)).trans HX1011 (fun b hb => .inl (.inr (.inl hb)))).trans HX1112 (fun b hb => .inl (.inr (.inr hb)))
  have hgm : g ≠ mb := by
    rintro rfl
    obtain ⟨_, _, h, _⟩ := HT.hm
    exact absurd (h.symm.trans HT.hg) (by simp)
  have hgo : g ≠ ob := by
    rintro rfl
    obtain ⟨_, _, h, _⟩ := HT.ho
    exact absurd (h.symm.trans HT.hg) (by simp)
  have hR1 : Kd.F k27 w12 (fun b => (T b ∨ w.heap.size ≤ b) ∧ b ≠ g ∧ b ≠ mb ∧ b ≠ ob) A1 x.f3.length x.f3 :=
    Kd.F_mono (ex_F X912 (R_F HR9) (fun b hb => by omega)) (fun b hb => ⟨.inr (by omega), by omega, by omega, by omega⟩)
  have hR2 : Kd.F k27 w12 (fun b => (T b ∨ w.heap.size ≤ b) ∧ b ≠ g ∧ b ≠ mb ∧ b ≠ ob) B1 y.f3.length y.f3 :=
    Kd.F_mono (ex_F X912 (R_F HR29) (fun b hb => by omega)) (fun b hb => ⟨.inr (by omega), by omega, by omega, by omega⟩)
  refine ⟨X12, ⟨m, x, y, A1, c1, B1, d1, came + 1, cl, cl2⟩, rfl, rfl, rfl, rfl, ?_⟩
  have hcast : (((came + 1 : Nat)) : Int) = (came : Int) + 1 := by omega
  refine { hg := ?_, hm := ?_, ho := ?_, good := ?_, tg := .inl HT.tg, tm := .inl HT.tm, tb := .inl HT.tb, ne := HT.ne, nums := ?_, marks := ?_, cames := ?_ }
  · rw [hcast, ← hcs]
    exact HX1112.blk HG11 (show ¬ g = w.heap.size + 1 + 1 by omega)
  · refine ⟨_, _, HX1112.blk HMB11 (show ¬ mb = w.heap.size + 1 + 1 by omega), ?_⟩
    rw [Array.toList_push, HES, List.map_append, List.map_singleton, Row.e1, Row.val, hcast, HU]
  · refine ⟨_, _, HX1112.blk HOB11 (show ¬ ob = w.heap.size + 1 + 1 by omega), ?_⟩
    rw [Array.toList_push, HES2, List.map_append, List.map_singleton, Row.e2, hcast, HU]
  · intro r hr
    rcases List.mem_append.1 hr with hr | hr
    · have h := HT.good r hr
      refine { h with fk := ?_, fv := ?_ }
      · exact Kd.F_mono (ex_F X12 (Kd.F_bound h.fk) (fun b hb => by have := hb.1; omega)) (fun b hb => ⟨.inl hb.1.1, hb.1.2⟩)
      · exact Kd.F_mono (ex_F X12 (Kd.F_bound h.fv) (fun b hb => by have := hb.1; omega)) (fun b hb => ⟨.inl hb.1.1, hb.1.2⟩)
    · rw [List.mem_singleton] at hr
      subst hr
      exact ⟨H1, HKEY, HM, HN, HL1, HL2, hR1, hR2⟩
  · intro r hr
    rcases List.mem_append.1 hr with hr | hr
    · have := HT.nums r hr
      omega
    · rw [List.mem_singleton] at hr
      subst hr
      show 1 ≤ came + 1 ∧ came + 1 ≤ came + 1
      omega
  · rw [List.pairwise_append]
    refine ⟨HT.marks, by simp, ?_⟩
    intro r hr s hs
    rw [List.mem_singleton] at hs
    subst hs
    exact posMk_none HKEY.1 HP r.m (List.mem_map.2 ⟨r, hr, rfl⟩)
  · rw [List.pairwise_append]
    refine ⟨HT.cames, by simp, ?_⟩
    intro r hr s hs
    rw [List.mem_singleton] at hs
    subst hs
    have := HT.nums r hr
    show r.n ≠ came + 1
    omega

theorem modify_list {es : Array MapEntry} {rows : List Row} {j : Nat} {r r' : Row} {f : MapEntry → MapEntry} (h : es.toList = rows.map Row.e1) (hr : rows[j]? = some r) (hf : f r.e1 = r'.e1) : (es.modify j f).toList = (rows.set j r').map Row.e1 := by
  apply List.ext_getElem?
  intro i
  have hi := congrArg (fun l => l[i]?) h
  simp only [Array.getElem?_toList, List.getElem?_map] at hi
  rw [Array.getElem?_toList, Array.getElem?_modify, List.getElem?_map, List.getElem?_set]
  by_cases hij : j = i
  · subst hij
    rw [if_pos rfl, if_pos rfl, hi, hr]
    have : j < rows.length := (List.getElem?_eq_some_iff.1 hr).1
    simp [this, hf]
  · rw [if_neg hij, if_neg hij, hi]

theorem under_row {es : Array MapEntry} {rows : List Row} {j : Nat} {r : Row} {z : Value} (h : es.toList = rows.map Row.e1) (hr : rows[j]? = some r) : under es z (some j) = (r.val, true) := by
  have hj := congrArg (fun l => l[j]?) h
  simp only [Array.getElem?_toList, List.getElem?_map, hr, Option.map_some] at hj
  simp [under, hj, Row.e1]

theorem pairwise_set {α : Type} {R : α → α → Prop} (hs : ∀ a b, R a b → R b a) {l : List α} {j : Nat} {r r' : α} (h : l.Pairwise R) (hr : l[j]? = some r) (h1 : ∀ s, R r s → R r' s) : (l.set j r').Pairwise R := by
  induction l generalizing j with
  | nil => simp
  | cons a l ih =>
    rw [List.pairwise_cons] at h
    cases j with
    | zero =>
      simp only [List.getElem?_cons_zero, Option.some.injEq] at hr
      subst hr
      simp only [List.set_cons_zero, List.pairwise_cons]
      exact ⟨fun s hs => h1 s (h.1 s hs), h.2⟩
    | succ j =>
      simp only [List.getElem?_cons_succ] at hr
      simp only [List.set_cons_succ, List.pairwise_cons]
      refine ⟨fun s hs' => ?_, ih h.2 hr⟩
      rcases List.mem_or_eq_of_mem_set hs' with h2 | rfl
      · exact h.1 s h2
      · exact hs _ _ (h1 _ (hs _ _ (h.1 r (List.mem_of_getElem? hr))))

/-- the row whose value is turned -/
def Row.turn (r : Row) (y : S27) (B : Option Addr) (d : Nat) : Row := { r with v := y, B := B, cb := d }

theorem put_old_end {y : S27} {g mb ob : Nat} {T : Nat → Prop} {rows : List Row} {came j : Nat} {r : Row} {m : Mk} {w w3 w7 w8 w9 w10 : World} {B1 : Option Addr} {d1 n8 cl : Nat} {es : Array MapEntry} {t1 : TypeId} {u1 : Value}
    (HT : Tab w g mb ob T rows came) (HX3 : Ex (fun _ => False) w w3) (HX37 : Ex (fun b => b = w.heap.size + 1 + 1) w3 w7) (HX78 : Ex (fun b => b = w3.heap.size) w7 w8) (HX89 : Ex (fun b => b = mb) w8 w9) (HX910 : Ex (fun b => b = w.heap.size + 1 + 1) w9 w10) (hb : w.heap.size + 1 + 1 < w3.heap.size)
    (HR : rows[j]? = some r) (HRM : r.m = m)
    (HMB9 : w9.heap[mb]? = some (.map (es.modify j fun e => { e with key := .iface t1 u1, val := .agg #[.int .u8 r.k.f0, .int .i64 r.k.f1, .string r.k.f2, .slice r.A r.k.f3.length r.ca, .int .i64 r.k.f4, .int .u8 y.f0, .int .i64 y.f1, .string y.f2, .slice B1 y.f3.length d1, .int .i64 y.f4, .int .i64 r.n] }) cl))
    (HES : es.toList = rows.map Row.e1) (HU : m.val = .iface t1 u1) (HN : mayV y = true) (HL2 : y.f3.length ≤ d1) (HR29 : Kd.R k27 27 w7 n8 (fun b => n8 ≤ b) (.slice B1 y.f3.length d1) y.f3) (h8 : w3.heap.size < n8) :
    Ex (fun b => b = g ∨ b = mb ∨ b = ob) w w10 ∧ Kd.F k27 w10 T r.B r.v.f3.length r.v.f3 ∧ ∃ B d, Tab w10 g mb ob (fun b => T b ∨ w.heap.size ≤ b) (rows.set j (r.turn y B d)) came := by
  have hg : g < w.heap.size := lt_of_blk HT.hg
  have hmb : mb < w.heap.size := let ⟨_, _, h, _⟩ := HT.hm; lt_of_blk h
  have hob : ob < w.heap.size := let ⟨_, _, h, _⟩ := HT.ho; lt_of_blk h
  have h3 := HX3.size
  have hgm : g ≠ mb := by
    rintro rfl
    obtain ⟨_, _, h, _⟩ := HT.hm
    exact absurd (h.symm.trans HT.hg) (by simp)
  have X7 : Ex (fun b => b = mb) w w7 := (HX3.mono (fun _ h => h.elim)).trans HX37 (fun b hb => .inr (by omega))
  have X8 := X7.trans HX78 (fun b hb => .inr (by omega))
  have X9 := X8.trans HX89 (fun b hb => .inl hb)
  have X10 := X9.trans HX910 (fun b hb => .inr (by omega))
  have X710 : Ex (fun b => b = w3.heap.size ∨ b = mb ∨ b = w.heap.size + 1 + 1) w7 w10 := ((HX78.mono (fun _ h => .inl h)).trans HX89 (fun b hb => .inl (.inr (.inl hb)))).trans HX910 (fun b hb => .inl (.inr (.inr hb)))
  have hgood := HT.good r (List.mem_of_getElem? HR)
  have hj : j < rows.length := (List.getElem?_eq_some_iff.1 HR).1
  refine ⟨X10.mono (fun b hb => .inr (.inl hb)), Kd.F_mono (ex_F X10 hgood.fv (fun b hb => hb.2.2.1)) (fun b hb => hb.1), B1, d1, ?_⟩
  have hR2 : Kd.F k27 w10 (fun b => (T b ∨ w.heap.size ≤ b) ∧ b ≠ g ∧ b ≠ mb ∧ b ≠ ob) B1 y.f3.length y.f3 :=
    Kd.F_mono (ex_F X710 (R_F HR29) (fun b hb => by omega)) (fun b hb => ⟨.inr (by omega), by omega, by omega, by omega⟩)
  have hsame : ∀ s : Row, s.Good w (fun b => T b ∧ b ≠ g ∧ b ≠ mb ∧ b ≠ ob) → s.Good w10 (fun b => (T b ∨ w.heap.size ≤ b) ∧ b ≠ g ∧ b ≠ mb ∧ b ≠ ob) := fun s h =>
    (h.ex X10 (fun b hb => hb.2.2.1)).mono (fun b hb => ⟨.inl hb.1, hb.2⟩)
  refine { hg := X10.blk HT.hg hgm, hm := ⟨_, _, HX910.blk HMB9 (show ¬ mb = w.heap.size + 1 + 1 by omega), modify_list HES HR ?_⟩, ho := ?_, good := ?_, tg := .inl HT.tg, tm := .inl HT.tm, tb := .inl HT.tb, ne := HT.ne, nums := ?_, marks := ?_, cames := ?_ }
  · simp only [Row.e1, Row.val, Row.turn, HRM, HU]
  · obtain ⟨es', c', h1, h2⟩ := HT.ho
    refine ⟨es', c', X10.blk h1 (Ne.symm HT.ne), ?_⟩
    rw [h2]
    apply List.ext_getElem?
    intro i
    rw [List.getElem?_map, List.getElem?_map, List.getElem?_set]
    by_cases hij : j = i
    · subst hij
      rw [if_pos rfl, if_pos hj, HR]
      rfl
    · rw [if_neg hij]
  · intro s hs
    rcases List.mem_or_eq_of_mem_set hs with h | rfl
    · exact hsame s (HT.good s h)
    · have h := hsame r hgood
      exact { h with mayv := HN, lv := HL2, fv := hR2 }
  · intro s hs
    rcases List.mem_or_eq_of_mem_set hs with h | rfl
    · exact HT.nums s h
    · exact HT.nums r (List.mem_of_getElem? HR)
  · exact pairwise_set (fun _ _ h => Ne.symm h) HT.marks HR (fun s h => h)
  · exact pairwise_set (fun _ _ h => Ne.symm h) HT.cames HR (fun s h => h)

end Go.Proofs.Ythkemcekcfccpaa.PBrandCompares

namespace Go.Proofs.Ythkemcekcfccpaa.PBrandCompares
open Go.RowKit Go.Proofs.YthkemcekcfccpaaW.PrintWords Go.Proofs.YthkemcekcfccpaaW.PrintLast Go.Proofs.YthkemcekcfccpaaW.PrintMore
open Go.Proofs.Ythkemcekcfccpaa.GBrandCompares
set_option linter.unusedVariables false
set_option linter.unusedSimpArgs false

abbrev PUT (x y : S27) (A B : Option Addr) (c d g : Nat) (w : World) (R : Ending → World → Prop) : Prop :=
  Calls Try.prog 15 #[.pointer (some ⟨g, 0, none⟩), .agg #[.int .u8 x.f0, .int .i64 x.f1, .string x.f2, .slice A x.f3.length c, .int .i64 x.f4], .agg #[.int .u8 y.f0, .int .i64 y.f1, .string y.f2, .slice B y.f3.length d, .int .i64 y.f4]] w R

/-- the value that is none -/
def zval : Value := .agg #[.int .u8 0, .int .i64 0, .string ⟨#[]⟩, .slice none 0 0, .int .i64 0]

set_option maxHeartbeats 400000 in
theorem put_arg1 (x y : S27) (A B : Option Addr) (c d g mb : Nat) (b3 b4 : Value) (w : World) (ok : Nat → Prop) (h : w.heap[g]? = some (.cells #[.map (some mb), b3, b4] 66 (0, 0))) (hF : Kd.F k27 w ok A x.f3.length x.f3) (hF2 : Kd.F k27 w ok B y.f3.length y.f3) (hm : mayV x = false) : PUT x y A B c d g w fun e w' => e = .returned (.tuple #[zval, .bool false, .int .i64 2]) ∧ Ex (fun _ => False) w w' := by
  have HG := Aside0.mk h
  have HF := Aside0.mk hF
  have HM := Aside0.mk hm
  clear h hF hm hF2
  unfold PUT
  go_enter Try.func15, Try.ntmps15
  go_wp2_with fail
  refine (none_no g mb b3 b4 _ (blk_alloc (blk_alloc (blk_alloc HG.out _) _) _)).mono ?_
  rintro e w1 ⟨rfl, rfl⟩
  go_wp2_with fail
  refine (may_calls x A c _ _ (Kd.F_alloc (Kd.F_alloc (Kd.F_alloc HF.out _) _) _)).mono ?_
  rintro e w1 ⟨rfl, hx1⟩
  have hm' := HM.out
  rw [hm']
  clear hm'
  have HG1 := Aside0.mk (hx1.blk (blk_alloc (blk_alloc (blk_alloc HG.out _) _) _) (fun h => h))
  have HK1 := Aside0.mk (hx1.blk (blk_alloc (blk_alloc (blk_new1 w _) _) _) (fun h => h))
  have HV1 := Aside0.mk (hx1.blk (blk_alloc (blk_new2 w _ _) _) (fun h => h))
  have HB1 := Aside0.mk (show w1.heap[w.heap.size + 1 + 1]? = some (.cells #[.int .u8 0, .int .i64 0, .string ⟨#[]⟩, .slice none 0 0, .int .i64 0] 27 (0, 0)) from hx1.blk (blk_new3 w _ _ _) (fun h => h))
  have HX1 := Aside0.mk (((((Ex.refl (fun _ => False) w).alloc _).alloc _).alloc _).trans hx1 (fun _ h => h.elim))
  clear hx1
  have bc0 := (blk_cell HB1.out 0).trans rfl
  have bc1 := (blk_cell HB1.out 1).trans rfl
  have bc2 := (blk_cell HB1.out 2).trans rfl
  have bc3 := (blk_cell HB1.out 3).trans rfl
  have bc4 := (blk_cell HB1.out 4).trans rfl
  have bf0 := blk_frozen HB1.out 0
  have bf1 := blk_frozen HB1.out 1
  have bf2 := blk_frozen HB1.out 2
  have bf3 := blk_frozen HB1.out 3
  have bf4 := blk_frozen HB1.out 4
  have bl := lt_of_blk HB1.out
  go_wp2_with fail
  refine bodyPost_ret (results_row_tmp2 rfl _ _ (w.heap.size + 1 + 1) 27 _ (0, 0) _ rfl (put27 HB1.out rfl _ _ _ _ _) Try.underlying27 rfl size27) rfl ?_
  exact ⟨rfl, ex_put27 HX1.out (.inr (by omega)) _ _ _ _ _⟩

set_option maxHeartbeats 400000 in
theorem put_arg2 (x y : S27) (A B : Option Addr) (c d g mb : Nat) (b3 b4 : Value) (w : World) (ok : Nat → Prop) (h : w.heap[g]? = some (.cells #[.map (some mb), b3, b4] 66 (0, 0))) (hF : Kd.F k27 w ok A x.f3.length x.f3) (hF2 : Kd.F k27 w ok B y.f3.length y.f3) (hm : mayV x = true) (hn : mayV y = false) : PUT x y A B c d g w fun e w' => e = .returned (.tuple #[zval, .bool false, .int .i64 2]) ∧ Ex (fun _ => False) w w' := by
  have HG := Aside0.mk h
  have HF := Aside0.mk hF
  have HF2 := Aside0.mk hF2
  have HM := Aside0.mk hm
  have HN := Aside0.mk hn
  clear h hF hm hF2 hn
  unfold PUT
  go_enter Try.func15, Try.ntmps15
  go_wp2_with fail
  refine (none_no g mb b3 b4 _ (blk_alloc (blk_alloc (blk_alloc HG.out _) _) _)).mono ?_
  rintro e w1 ⟨rfl, rfl⟩
  go_wp2_with fail
  refine (may_calls x A c _ _ (Kd.F_alloc (Kd.F_alloc (Kd.F_alloc HF.out _) _) _)).mono ?_
  rintro e w1 ⟨rfl, hx1⟩
  have hm' := HM.out
  rw [hm']
  clear hm'
  have HG1 := Aside0.mk (hx1.blk (blk_alloc (blk_alloc (blk_alloc HG.out _) _) _) (fun h => h))
  have HK1 := Aside0.mk (hx1.blk (blk_alloc (blk_alloc (blk_new1 w _) _) _) (fun h => h))
  have HV1 := Aside0.mk (hx1.blk (blk_alloc (blk_new2 w _ _) _) (fun h => h))
  have HB1 := Aside0.mk (show w1.heap[w.heap.size + 1 + 1]? = some (.cells #[.int .u8 0, .int .i64 0, .string ⟨#[]⟩, .slice none 0 0, .int .i64 0] 27 (0, 0)) from hx1.blk (blk_new3 w _ _ _) (fun h => h))
  have HX1 := Aside0.mk (((((Ex.refl (fun _ => False) w).alloc _).alloc _).alloc _).trans hx1 (fun _ h => h.elim))
  clear hx1
  have vc0 := (blk_cell HV1.out 0).trans rfl
  have vc1 := (blk_cell HV1.out 1).trans rfl
  have vc2 := (blk_cell HV1.out 2).trans rfl
  have vc3 := (blk_cell HV1.out 3).trans rfl
  have vc4 := (blk_cell HV1.out 4).trans rfl
  have vf0 := blk_frozen HV1.out 0
  have vf1 := blk_frozen HV1.out 1
  have vf2 := blk_frozen HV1.out 2
  have vf3 := blk_frozen HV1.out 3
  have vf4 := blk_frozen HV1.out 4
  have vl := lt_of_blk HV1.out
  go_wp2_with fail
  refine (may_calls y B d _ _ (ex_F HX1.out HF2.out (fun _ _ h => h))).mono ?_
  rintro e w2 ⟨rfl, hx2⟩
  have hm' := HN.out
  rw [hm']
  clear hm'
  have HG2 := Aside0.mk (hx2.blk HG1.out (fun h => h))
  have HK2 := Aside0.mk (hx2.blk HK1.out (fun h => h))
  have HV2 := Aside0.mk (hx2.blk HV1.out (fun h => h))
  have HB2 := Aside0.mk (hx2.blk HB1.out (fun h => h))
  have HX2 := Aside0.mk (HX1.out.trans hx2 (fun _ h => h.elim))
  clear hx2
  clear vc0 vc1 vc2 vc3 vc4 vf0 vf1 vf2 vf3 vf4 vl
  have bc0 := (blk_cell HB2.out 0).trans rfl
  have bc1 := (blk_cell HB2.out 1).trans rfl
  have bc2 := (blk_cell HB2.out 2).trans rfl
  have bc3 := (blk_cell HB2.out 3).trans rfl
  have bc4 := (blk_cell HB2.out 4).trans rfl
  have bf0 := blk_frozen HB2.out 0
  have bf1 := blk_frozen HB2.out 1
  have bf2 := blk_frozen HB2.out 2
  have bf3 := blk_frozen HB2.out 3
  have bf4 := blk_frozen HB2.out 4
  have bl := lt_of_blk HB2.out
  go_wp2_with fail
  refine bodyPost_ret (results_row_tmp2 rfl _ _ (w.heap.size + 1 + 1) 27 _ (0, 0) _ rfl (put27 HB2.out rfl _ _ _ _ _) Try.underlying27 rfl size27) rfl ?_
  exact ⟨rfl, ex_put27 HX2.out (.inr (by omega)) _ _ _ _ _⟩

set_option maxHeartbeats 400000 in
theorem put_key (x y : S27) (A B : Option Addr) (c d g mb : Nat) (b3 b4 : Value) (w : World) (ok : Nat → Prop) (h : w.heap[g]? = some (.cells #[.map (some mb), b3, b4] 66 (0, 0))) (hF : Kd.F k27 w ok A x.f3.length x.f3) (hF2 : Kd.F k27 w ok B y.f3.length y.f3) (hm : mayV x = true) (hn : mayV y = true) (hk : ∀ m, MarkOf x m → m.keys = false) : PUT x y A B c d g w fun e w' => e = .returned (.tuple #[zval, .bool false, .int .i64 40]) ∧ Ex (fun _ => False) w w' := by
  have HG := Aside0.mk h
  have HF := Aside0.mk hF
  have HF2 := Aside0.mk hF2
  have HM := Aside0.mk hm
  have HN := Aside0.mk hn
  have HKK := Aside0.mk hk
  clear h hF hm hF2 hn hk
  unfold PUT
  go_enter Try.func15, Try.ntmps15
  go_wp2_with fail
  refine (none_no g mb b3 b4 _ (blk_alloc (blk_alloc (blk_alloc HG.out _) _) _)).mono ?_
  rintro e w1 ⟨rfl, rfl⟩
  go_wp2_with fail
  refine (may_calls x A c _ _ (Kd.F_alloc (Kd.F_alloc (Kd.F_alloc HF.out _) _) _)).mono ?_
  rintro e w1 ⟨rfl, hx1⟩
  have hm' := HM.out
  rw [hm']
  clear hm'
  have HG1 := Aside0.mk (hx1.blk (blk_alloc (blk_alloc (blk_alloc HG.out _) _) _) (fun h => h))
  have HK1 := Aside0.mk (hx1.blk (blk_alloc (blk_alloc (blk_new1 w _) _) _) (fun h => h))
  have HV1 := Aside0.mk (hx1.blk (blk_alloc (blk_new2 w _ _) _) (fun h => h))
  have HB1 := Aside0.mk (show w1.heap[w.heap.size + 1 + 1]? = some (.cells #[.int .u8 0, .int .i64 0, .string ⟨#[]⟩, .slice none 0 0, .int .i64 0] 27 (0, 0)) from hx1.blk (blk_new3 w _ _ _) (fun h => h))
  have HX1 := Aside0.mk (((((Ex.refl (fun _ => False) w).alloc _).alloc _).alloc _).trans hx1 (fun _ h => h.elim))
  clear hx1
  have vc0 := (blk_cell HV1.out 0).trans rfl
  have vc1 := (blk_cell HV1.out 1).trans rfl
  have vc2 := (blk_cell HV1.out 2).trans rfl
  have vc3 := (blk_cell HV1.out 3).trans rfl
  have vc4 := (blk_cell HV1.out 4).trans rfl
  have vf0 := blk_frozen HV1.out 0
  have vf1 := blk_frozen HV1.out 1
  have vf2 := blk_frozen HV1.out 2
  have vf3 := blk_frozen HV1.out 3
  have vf4 := blk_frozen HV1.out 4
  have vl := lt_of_blk HV1.out
  go_wp2_with fail
  refine (may_calls y B d _ _ (ex_F HX1.out HF2.out (fun _ _ h => h))).mono ?_
  rintro e w2 ⟨rfl, hx2⟩
  have hm' := HN.out
  rw [hm']
  clear hm'
  have HG2 := Aside0.mk (hx2.blk HG1.out (fun h => h))
  have HK2 := Aside0.mk (hx2.blk HK1.out (fun h => h))
  have HV2 := Aside0.mk (hx2.blk HV1.out (fun h => h))
  have HB2 := Aside0.mk (hx2.blk HB1.out (fun h => h))
  have HX2 := Aside0.mk (HX1.out.trans hx2 (fun _ h => h.elim))
  clear hx2
  clear vc0 vc1 vc2 vc3 vc4 vf0 vf1 vf2 vf3 vf4 vl
  have kc0 := (blk_cell HK2.out 0).trans rfl
  have kc1 := (blk_cell HK2.out 1).trans rfl
  have kc2 := (blk_cell HK2.out 2).trans rfl
  have kc3 := (blk_cell HK2.out 3).trans rfl
  have kc4 := (blk_cell HK2.out 4).trans rfl
  have kf0 := blk_frozen HK2.out 0
  have kf1 := blk_frozen HK2.out 1
  have kf2 := blk_frozen HK2.out 2
  have kf3 := blk_frozen HK2.out 3
  have kf4 := blk_frozen HK2.out 4
  have kl := lt_of_blk HK2.out
  go_wp2_with fail
  refine (find_key' x A c g mb b3 b4 _ ok HG2.out (ex_F HX2.out HF.out (fun _ _ h => h)) HM.out).mono ?_
  rintro e w3 ⟨m, h1, h2, hx3, rfl⟩
  have hk' := HKK.out m h1
  rw [hk']
  clear hk' h1 h2
  have HB3 := Aside0.mk (hx3.blk HB2.out (fun h => h))
  have HX3 := Aside0.mk (HX2.out.trans hx3 (fun _ h => h.elim))
  clear hx3
  clear kc0 kc1 kc2 kc3 kc4 kf0 kf1 kf2 kf3 kf4 kl
  have bc0 := (blk_cell HB3.out 0).trans rfl
  have bc1 := (blk_cell HB3.out 1).trans rfl
  have bc2 := (blk_cell HB3.out 2).trans rfl
  have bc3 := (blk_cell HB3.out 3).trans rfl
  have bc4 := (blk_cell HB3.out 4).trans rfl
  have bf0 := blk_frozen HB3.out 0
  have bf1 := blk_frozen HB3.out 1
  have bf2 := blk_frozen HB3.out 2
  have bf3 := blk_frozen HB3.out 3
  have bf4 := blk_frozen HB3.out 4
  have bl := lt_of_blk HB3.out
  go_wp2_with fail
  refine bodyPost_ret (results_row_tmp2 rfl _ _ (w.heap.size + 1 + 1) 27 _ (0, 0) _ rfl (put27 HB3.out rfl _ _ _ _ _) Try.underlying27 rfl size27) rfl ?_
  exact ⟨rfl, ex_put27 HX3.out (.inr (by omega)) _ _ _ _ _⟩

end Go.Proofs.Ythkemcekcfccpaa.PBrandCompares

namespace Go.Proofs.Ythkemcekcfccpaa.PBrandCompares
open Go.RowKit Go.Proofs.YthkemcekcfccpaaW.PrintWords Go.Proofs.YthkemcekcfccpaaW.PrintLast Go.Proofs.YthkemcekcfccpaaW.PrintMore
open Go.Proofs.Ythkemcekcfccpaa.GBrandCompares
set_option linter.unusedVariables false
set_option linter.unusedSimpArgs false

set_option maxRecDepth 100000 in
set_option maxHeartbeats 4000000 in
theorem put_old (x y : S27) (A B : Option Addr) (c d g mb ob : Nat) (T ok : Nat → Prop) (rows : List Row) (came : Nat) (w : World) (h : Tab w g mb ob T rows came) (hcame : came < 1000000000) (hc : x.f3.length ≤ c) (hd : y.f3.length ≤ d) (hF : Kd.F k27 w ok A x.f3.length x.f3) (hF2 : Kd.F k27 w ok B y.f3.length y.f3) (hok : ∀ b, ok b → ¬ T b) (hm : mayV x = true) (hn : mayV y = true) (m : Mk) (hmk : ∀ m2, MarkOf x m2 → m2 = m) (hkey : Key m) (j : Nat) (r : Row) (hp : posMk m (rows.map (·.m)) = some j) (hr : rows[j]? = some r) (hrm : r.m = m) : PUT x y A B c d g w fun e w' => e = .returned (.tuple #[.agg #[.int .u8 r.v.f0, .int .i64 r.v.f1, .string r.v.f2, .slice r.B r.v.f3.length r.cb, .int .i64 r.v.f4], .bool true, .int .i64 0]) ∧ Ex (fun b => b = g ∨ b = mb ∨ b = ob) w w' ∧ Kd.F k27 w' T r.B r.v.f3.length r.v.f3 ∧ ∃ B d, Tab w' g mb ob (fun b => T b ∨ w.heap.size ≤ b) (rows.set j (r.turn y B d)) came := by
  have HT := Aside0.mk h
  have HG := Aside0.mk h.hg
  have HF := Aside0.mk (Kd.F_bound hF)
  have HF2 := Aside0.mk (Kd.F_bound hF2)
  have HM := Aside0.mk hm
  have HN := Aside0.mk hn
  have HMK := Aside0.mk hmk
  have HKEY := Aside0.mk hkey
  have HOK := Aside0.mk hok
  have HC := Aside0.mk (And.intro hc hd)
  have HP := Aside0.mk hp
  have HRW := Aside0.mk (And.intro hr hrm)
  obtain ⟨i0, hi0, hz0, _, _⟩ := info_parts info78
  have HI := Aside0.mk (And.intro hi0 hz0)
  clear h hF hm hF2 hn hmk hkey hp hi0 hz0 hok hc hd hr hrm
  unfold PUT
  go_enter Try.func15, Try.ntmps15
  go_wp2_with fail
  refine (none_no g mb _ _ _ (blk_alloc (blk_alloc (blk_alloc HG.out _) _) _)).mono ?_
  rintro e w1 ⟨rfl, rfl⟩
  go_wp2_with fail
  refine (may_calls x A c _ _ (Kd.F_alloc (Kd.F_alloc (Kd.F_alloc HF.out _) _) _)).mono ?_
  rintro e w1 ⟨rfl, hx1⟩
  have hm' := HM.out
  rw [hm']
  clear hm'
  have HG1 := Aside0.mk (hx1.blk (blk_alloc (blk_alloc (blk_alloc HG.out _) _) _) (fun h => h))
  have HK1 := Aside0.mk (hx1.blk (blk_alloc (blk_alloc (blk_new1 w _) _) _) (fun h => h))
  have HV1 := Aside0.mk (hx1.blk (blk_alloc (blk_new2 w _ _) _) (fun h => h))
  have HB1 := Aside0.mk (show w1.heap[w.heap.size + 1 + 1]? = some (.cells #[.int .u8 0, .int .i64 0, .string ⟨#[]⟩, .slice none 0 0, .int .i64 0] 27 (0, 0)) from hx1.blk (blk_new3 w _ _ _) (fun h => h))
  have HX1 := Aside0.mk (((((Ex.refl (fun _ => False) w).alloc _).alloc _).alloc _).trans hx1 (fun _ h => h.elim))
  clear hx1
  have vc0 := (blk_cell HV1.out 0).trans rfl
  have vc1 := (blk_cell HV1.out 1).trans rfl
  have vc2 := (blk_cell HV1.out 2).trans rfl
  have vc3 := (blk_cell HV1.out 3).trans rfl
  have vc4 := (blk_cell HV1.out 4).trans rfl
  have vf0 := blk_frozen HV1.out 0
  have vf1 := blk_frozen HV1.out 1
  have vf2 := blk_frozen HV1.out 2
  have vf3 := blk_frozen HV1.out 3
  have vf4 := blk_frozen HV1.out 4
  have vl := lt_of_blk HV1.out
  go_wp2_with fail
  refine (may_calls y B d _ _ (ex_F HX1.out HF2.out (fun _ _ h => h))).mono ?_
  rintro e w2 ⟨rfl, hx2⟩
  have hm' := HN.out
  rw [hm']
  clear hm'
  have HG2 := Aside0.mk (hx2.blk HG1.out (fun h => h))
  have HK2 := Aside0.mk (hx2.blk HK1.out (fun h => h))
  have HV2 := Aside0.mk (hx2.blk HV1.out (fun h => h))
  have HB2 := Aside0.mk (hx2.blk HB1.out (fun h => h))
  have HX2 := Aside0.mk (HX1.out.trans hx2 (fun _ h => h.elim))
  clear hx2
  clear vc0 vc1 vc2 vc3 vc4 vf0 vf1 vf2 vf3 vf4 vl
  have kc0 := (blk_cell HK2.out 0).trans rfl
  have kc1 := (blk_cell HK2.out 1).trans rfl
  have kc2 := (blk_cell HK2.out 2).trans rfl
  have kc3 := (blk_cell HK2.out 3).trans rfl
  have kc4 := (blk_cell HK2.out 4).trans rfl
  have kf0 := blk_frozen HK2.out 0
  have kf1 := blk_frozen HK2.out 1
  have kf2 := blk_frozen HK2.out 2
  have kf3 := blk_frozen HK2.out 3
  have kf4 := blk_frozen HK2.out 4
  have kl := lt_of_blk HK2.out
  go_wp2_with fail
  refine (find_key' x A c g mb _ _ _ _ HG2.out (ex_F HX2.out HF.out (fun _ _ h => h)) HM.out).mono ?_
  rintro e w3 ⟨m2, h1, h2, hx3, rfl⟩
  have hm2 := HMK.out m2 h1
  subst hm2
  have hk' := HKEY.out.1
  rw [hk']
  clear hk' h2
  have H1 := Aside0.mk h1
  clear h1
  have HG3 := Aside0.mk (hx3.blk HG2.out (fun h => h))
  have HK3 := Aside0.mk (hx3.blk HK2.out (fun h => h))
  have HV3 := Aside0.mk (hx3.blk HV2.out (fun h => h))
  have HB3 := Aside0.mk (hx3.blk HB2.out (fun h => h))
  have HX3 := Aside0.mk (HX2.out.trans hx3 (fun _ h => h.elim))
  have HT3 := Aside0.mk (HT.out.ex0 HX3.out)
  have HF3 := Aside0.mk (ex_F HX3.out HF.out (fun _ _ h => h))
  have HF23 := Aside0.mk (ex_F HX3.out HF2.out (fun _ _ h => h))
  clear hx3
  clear kc0 kc1 kc2 kc3 kc4 kf0 kf1 kf2 kf3 kf4 kl
  obtain ⟨es, cl, hmb, hes⟩ := HT3.out.hm
  have hlk := run_lookup 63 78 Try.underlying63 HI.out.1 HI.out.2 hmb HKEY.out (HT3.out.key_all) (HT3.out.keys_map hes) true
  rw [HP.out, under_row hes HRW.out.1] at hlk
  have hlk' : (Instr.lookup 63 (.map (some mb)) m2.val true).run Try.prog w3 = .ok (.tuple #[.agg #[.int .u8 r.k.f0, .int .i64 r.k.f1, .string r.k.f2, .slice r.A r.k.f3.length r.ca, .int .i64 r.k.f4, .int .u8 r.v.f0, .int .i64 r.v.f1, .string r.v.f2, .slice r.B r.v.f3.length r.cb, .int .i64 r.v.f4, .int .i64 r.n], .bool true]) w3 := hlk
  have HMB3 := Aside0.mk hmb
  have HES := Aside0.mk hes
  clear hlk hmb hes
  obtain ⟨t1, u1, hu1⟩ := m2.val_iface
  rw [hu1]
  rw [hu1] at hlk'
  have HU := Aside0.mk hu1
  clear hu1
  have gc0 := (blk_cell HG3.out 0).trans rfl
  have gc1 := (blk_cell HG3.out 1).trans rfl
  have gc2 := (blk_cell HG3.out 2).trans rfl
  have gf0 := blk_frozen HG3.out 0
  have gf1 := blk_frozen HG3.out 1
  have gf2 := blk_frozen HG3.out 2
  have gl := lt_of_blk HG3.out
  have bc0 := (blk_cell HB3.out 0).trans rfl
  have bc1 := (blk_cell HB3.out 1).trans rfl
  have bc2 := (blk_cell HB3.out 2).trans rfl
  have bc3 := (blk_cell HB3.out 3).trans rfl
  have bc4 := (blk_cell HB3.out 4).trans rfl
  have bf0 := blk_frozen HB3.out 0
  have bf1 := blk_frozen HB3.out 1
  have bf2 := blk_frozen HB3.out 2
  have bf3 := blk_frozen HB3.out 3
  have bf4 := blk_frozen HB3.out 4
  have bl := lt_of_blk HB3.out
  have kc0 := (blk_cell HK3.out 0).trans rfl
  have kc1 := (blk_cell HK3.out 1).trans rfl
  have kc2 := (blk_cell HK3.out 2).trans rfl
  have kc3 := (blk_cell HK3.out 3).trans rfl
  have kc4 := (blk_cell HK3.out 4).trans rfl
  have kf0 := blk_frozen HK3.out 0
  have kf1 := blk_frozen HK3.out 1
  have kf2 := blk_frozen HK3.out 2
  have kf3 := blk_frozen HK3.out 3
  have kf4 := blk_frozen HK3.out 4
  have kl := lt_of_blk HK3.out
  have vc0 := (blk_cell HV3.out 0).trans rfl
  have vc1 := (blk_cell HV3.out 1).trans rfl
  have vc2 := (blk_cell HV3.out 2).trans rfl
  have vc3 := (blk_cell HV3.out 3).trans rfl
  have vc4 := (blk_cell HV3.out 4).trans rfl
  have vf0 := blk_frozen HV3.out 0
  have vf1 := blk_frozen HV3.out 1
  have vf2 := blk_frozen HV3.out 2
  have vf3 := blk_frozen HV3.out 3
  have vf4 := blk_frozen HV3.out 4
  have vl := lt_of_blk HV3.out
  have hg0 : g < w.heap.size := lt_of_blk HG.out
  go_wp2_with fail
  have HX35 := Aside0.mk ((ex_put27 (Ex.refl (fun b => b = w.heap.size + 1 + 1) w3) (.inl rfl) (.int .u8 r.v.f0) (.int .i64 r.v.f1) (.string r.v.f2) (.slice r.B r.v.f3.length r.cb) (.int .i64 r.v.f4)).alloc (.cells #[.int .u8 r.k.f0, .int .i64 r.k.f1, .string r.k.f2, .slice r.A r.k.f3.length r.ca, .int .i64 r.k.f4, .int .u8 r.v.f0, .int .i64 r.v.f1, .string r.v.f2, .slice r.B r.v.f3.length r.cb, .int .i64 r.v.f4, .int .i64 r.n] 78))
  have HP5 := Aside0.mk (show ((((((w3.setCell ⟨w.heap.size + 1 + 1, 0, none⟩ (.int .u8 r.v.f0)).setCell ⟨w.heap.size + 1 + 1, 1, none⟩ (.int .i64 r.v.f1)).setCell ⟨w.heap.size + 1 + 1, 2, none⟩ (.string r.v.f2)).setCell ⟨w.heap.size + 1 + 1, 3, none⟩ (.slice r.B r.v.f3.length r.cb)).setCell ⟨w.heap.size + 1 + 1, 4, none⟩ (.int .i64 r.v.f4)).alloc (.cells #[.int .u8 r.k.f0, .int .i64 r.k.f1, .string r.k.f2, .slice r.A r.k.f3.length r.ca, .int .i64 r.k.f4, .int .u8 r.v.f0, .int .i64 r.v.f1, .string r.v.f2, .slice r.B r.v.f3.length r.cb, .int .i64 r.v.f4, .int .i64 r.n] 78)).heap[w3.heap.size]? = some (.cells #[.int .u8 r.k.f0, .int .i64 r.k.f1, .string r.k.f2, .slice r.A r.k.f3.length r.ca, .int .i64 r.k.f4, .int .u8 r.v.f0, .int .i64 r.v.f1, .string r.v.f2, .slice r.B r.v.f3.length r.cb, .int .i64 r.v.f4, .int .i64 r.n] 78 (0, 0)) from by
    have h := blk_new1 (((((w3.setCell ⟨w.heap.size + 1 + 1, 0, none⟩ (.int .u8 r.v.f0)).setCell ⟨w.heap.size + 1 + 1, 1, none⟩ (.int .i64 r.v.f1)).setCell ⟨w.heap.size + 1 + 1, 2, none⟩ (.string r.v.f2)).setCell ⟨w.heap.size + 1 + 1, 3, none⟩ (.slice r.B r.v.f3.length r.cb)).setCell ⟨w.heap.size + 1 + 1, 4, none⟩ (.int .i64 r.v.f4)) (.cells #[.int .u8 r.k.f0, .int .i64 r.k.f1, .string r.k.f2, .slice r.A r.k.f3.length r.ca, .int .i64 r.k.f4, .int .u8 r.v.f0, .int .i64 r.v.f1, .string r.v.f2, .slice r.B r.v.f3.length r.cb, .int .i64 r.v.f4, .int .i64 r.n] 78)
    rw [show (((((w3.setCell ⟨w.heap.size + 1 + 1, 0, none⟩ (.int .u8 r.v.f0)).setCell ⟨w.heap.size + 1 + 1, 1, none⟩ (.int .i64 r.v.f1)).setCell ⟨w.heap.size + 1 + 1, 2, none⟩ (.string r.v.f2)).setCell ⟨w.heap.size + 1 + 1, 3, none⟩ (.slice r.B r.v.f3.length r.cb)).setCell ⟨w.heap.size + 1 + 1, 4, none⟩ (.int .i64 r.v.f4)).heap.size = w3.heap.size by simp [World.setCell]] at h
    exact h)
  have HB5 := Aside0.mk (blk_alloc (put27 HB3.out rfl (.int .u8 r.v.f0) (.int .i64 r.v.f1) (.string r.v.f2) (.slice r.B r.v.f3.length r.cb) (.int .i64 r.v.f4)) (.cells #[.int .u8 r.k.f0, .int .i64 r.k.f1, .string r.k.f2, .slice r.A r.k.f3.length r.ca, .int .i64 r.k.f4, .int .u8 r.v.f0, .int .i64 r.v.f1, .string r.v.f2, .slice r.B r.v.f3.length r.cb, .int .i64 r.v.f4, .int .i64 r.n] 78))
  refine (own_calls y B d _ (fun k => ok k ∧ k < w.heap.size) HC.out.2 (ex_F HX35.out HF23.out (fun b hb => show ¬ b = w.heap.size + 1 + 1 by have := hb.2; omega)) HN.out).mono ?_
  rintro e w7 ⟨v, rfl, B1, d1, rfl, l2, hR2, hx7⟩
  have HL2 := Aside0.mk l2
  have HX37 := Aside0.mk (HX35.out.trans hx7 (fun _ h => h.elim))
  have HB7 := Aside0.mk (hx7.blk HB5.out (fun h => h))
  have HP7 := Aside0.mk (hx7.blk HP5.out (fun h => h))
  have HR29 := Aside0.mk hR2
  have hs8 : w3.heap.size < (((((((w3.setCell ⟨w.heap.size + 1 + 1, 0, none⟩ (.int .u8 r.v.f0)).setCell ⟨w.heap.size + 1 + 1, 1, none⟩ (.int .i64 r.v.f1)).setCell ⟨w.heap.size + 1 + 1, 2, none⟩ (.string r.v.f2)).setCell ⟨w.heap.size + 1 + 1, 3, none⟩ (.slice r.B r.v.f3.length r.cb)).setCell ⟨w.heap.size + 1 + 1, 4, none⟩ (.int .i64 r.v.f4)).alloc (.cells #[.int .u8 r.k.f0, .int .i64 r.k.f1, .string r.k.f2, .slice r.A r.k.f3.length r.ca, .int .i64 r.k.f4, .int .u8 r.v.f0, .int .i64 r.v.f1, .string r.v.f2, .slice r.B r.v.f3.length r.cb, .int .i64 r.v.f4, .int .i64 r.n] 78))).heap.size := lt_of_blk HP5.out
  clear HX35 HB5 HP5 hx7 hR2 l2
  generalize ((((((w3.setCell ⟨w.heap.size + 1 + 1, 0, none⟩ (.int .u8 r.v.f0)).setCell ⟨w.heap.size + 1 + 1, 1, none⟩ (.int .i64 r.v.f1)).setCell ⟨w.heap.size + 1 + 1, 2, none⟩ (.string r.v.f2)).setCell ⟨w.heap.size + 1 + 1, 3, none⟩ (.slice r.B r.v.f3.length r.cb)).setCell ⟨w.heap.size + 1 + 1, 4, none⟩ (.int .i64 r.v.f4)).alloc (.cells #[.int .u8 r.k.f0, .int .i64 r.k.f1, .string r.k.f2, .slice r.A r.k.f3.length r.ca, .int .i64 r.k.f4, .int .u8 r.v.f0, .int .i64 r.v.f1, .string r.v.f2, .slice r.B r.v.f3.length r.cb, .int .i64 r.v.f4, .int .i64 r.n] 78)) = w5 at HR29 hs8
  clear gc0 gc1 gc2 gf0 gf1 gf2 gl
  clear bc0 bc1 bc2 bc3 bc4 bf0 bf1 bf2 bf3 bf4 bl
  clear kc0 kc1 kc2 kc3 kc4 kf0 kf1 kf2 kf3 kf4 kl
  clear vc0 vc1 vc2 vc3 vc4 vf0 vf1 vf2 vf3 vf4 vl
  have HG7 := Aside0.mk (HX37.out.blk HG3.out (show ¬ g = w.heap.size + 1 + 1 by omega))
  have HMB7 := Aside0.mk (HX37.out.blk HMB3.out (show ¬ mb = w.heap.size + 1 + 1 by rintro rfl; exact absurd (HMB3.out.symm.trans HB3.out) (by simp)))
  have gc0 := (blk_cell HG7.out 0).trans rfl
  have gc1 := (blk_cell HG7.out 1).trans rfl
  have gc2 := (blk_cell HG7.out 2).trans rfl
  have gf0 := blk_frozen HG7.out 0
  have gf1 := blk_frozen HG7.out 1
  have gf2 := blk_frozen HG7.out 2
  have gl := lt_of_blk HG7.out
  have pc0 := (blk_cell HP7.out 0).trans rfl
  have pc1 := (blk_cell HP7.out 1).trans rfl
  have pc2 := (blk_cell HP7.out 2).trans rfl
  have pc3 := (blk_cell HP7.out 3).trans rfl
  have pc4 := (blk_cell HP7.out 4).trans rfl
  have pc5 := (blk_cell HP7.out 5).trans rfl
  have pc6 := (blk_cell HP7.out 6).trans rfl
  have pc7 := (blk_cell HP7.out 7).trans rfl
  have pc8 := (blk_cell HP7.out 8).trans rfl
  have pc9 := (blk_cell HP7.out 9).trans rfl
  have pc10 := (blk_cell HP7.out 10).trans rfl
  have pf0 := blk_frozen HP7.out 0
  have pf1 := blk_frozen HP7.out 1
  have pf2 := blk_frozen HP7.out 2
  have pf3 := blk_frozen HP7.out 3
  have pf4 := blk_frozen HP7.out 4
  have pf5 := blk_frozen HP7.out 5
  have pf6 := blk_frozen HP7.out 6
  have pf7 := blk_frozen HP7.out 7
  have pf8 := blk_frozen HP7.out 8
  have pf9 := blk_frozen HP7.out 9
  have pf10 := blk_frozen HP7.out 10
  have pl := lt_of_blk HP7.out
  have bc0 := (blk_cell HB7.out 0).trans rfl
  have bc1 := (blk_cell HB7.out 1).trans rfl
  have bc2 := (blk_cell HB7.out 2).trans rfl
  have bc3 := (blk_cell HB7.out 3).trans rfl
  have bc4 := (blk_cell HB7.out 4).trans rfl
  have bf0 := blk_frozen HB7.out 0
  have bf1 := blk_frozen HB7.out 1
  have bf2 := blk_frozen HB7.out 2
  have bf3 := blk_frozen HB7.out 3
  have bf4 := blk_frozen HB7.out 4
  have bl := lt_of_blk HB7.out
  go_wp2_with fail
  clear gc0 gc1 gc2 gf0 gf1 gf2 gl
  clear pc0 pc1 pc2 pc3 pc4 pc5 pc6 pc7 pc8 pc9 pc10 pf0 pf1 pf2 pf3 pf4 pf5 pf6 pf7 pf8 pf9 pf10 pl
  clear bc0 bc1 bc2 bc3 bc4 bf0 bf1 bf2 bf3 bf4 bl
  have HX78 := Aside0.mk (ex_put78v (Ex.refl (fun b => b = w3.heap.size) w7) (.inl rfl) (.int .u8 y.f0) (.int .i64 y.f1) (.string y.f2) (.slice B1 y.f3.length d1) (.int .i64 y.f4))
  have HP8 := Aside0.mk (put78v HP7.out (.int .u8 y.f0) (.int .i64 y.f1) (.string y.f2) (.slice B1 y.f3.length d1) (.int .i64 y.f4))
  generalize (((((w7.setCell ⟨w3.heap.size, 5, none⟩ (.int .u8 y.f0)).setCell ⟨w3.heap.size, 6, none⟩ (.int .i64 y.f1)).setCell ⟨w3.heap.size, 7, none⟩ (.string y.f2)).setCell ⟨w3.heap.size, 8, none⟩ (.slice B1 y.f3.length d1)).setCell ⟨w3.heap.size, 9, none⟩ (.int .i64 y.f4)) = w8 at HX78 HP8 ⊢
  have HG8 := Aside0.mk (HX78.out.blk HG7.out (show ¬ g = w3.heap.size by have := HX3.out.size; omega))
  have HB8 := Aside0.mk (HX78.out.blk HB7.out (show ¬ w.heap.size + 1 + 1 = w3.heap.size by have := lt_of_blk HB3.out; omega))
  have HMB8 := Aside0.mk (HX78.out.blk HMB7.out (show ¬ mb = w3.heap.size by have := lt_of_blk HMB3.out; omega))
  have HPUT := run_old (blk_drew HMB8.out) HKEY.out (HT3.out.key_all) (HT3.out.keys_map HES.out) HP.out (.agg #[.int .u8 r.k.f0, .int .i64 r.k.f1, .string r.k.f2, .slice r.A r.k.f3.length r.ca, .int .i64 r.k.f4, .int .u8 y.f0, .int .i64 y.f1, .string y.f2, .slice B1 y.f3.length d1, .int .i64 y.f4, .int .i64 r.n])
  rw [HU.out] at HPUT
  have HX89 := Aside0.mk (ex_setB ((Ex.refl (fun b => b = mb) w8).drew) (.inl rfl) (.map (es.modify j fun e => { e with key := .iface t1 u1, val := .agg #[.int .u8 r.k.f0, .int .i64 r.k.f1, .string r.k.f2, .slice r.A r.k.f3.length r.ca, .int .i64 r.k.f4, .int .u8 y.f0, .int .i64 y.f1, .string y.f2, .slice B1 y.f3.length d1, .int .i64 y.f4, .int .i64 r.n] }) cl))
  have HMB9 := Aside0.mk (setB_blk (o' := .map (es.modify j fun e => { e with key := .iface t1 u1, val := .agg #[.int .u8 r.k.f0, .int .i64 r.k.f1, .string r.k.f2, .slice r.A r.k.f3.length r.ca, .int .i64 r.k.f4, .int .u8 y.f0, .int .i64 y.f1, .string y.f2, .slice B1 y.f3.length d1, .int .i64 y.f4, .int .i64 r.n] }) cl) (blk_drew HMB8.out))
  generalize setB w8.drew mb (.map (es.modify j fun e => { e with key := .iface t1 u1, val := .agg #[.int .u8 r.k.f0, .int .i64 r.k.f1, .string r.k.f2, .slice r.A r.k.f3.length r.ca, .int .i64 r.k.f4, .int .u8 y.f0, .int .i64 y.f1, .string y.f2, .slice B1 y.f3.length d1, .int .i64 y.f4, .int .i64 r.n] }) cl) = w9 at HPUT HX89 HMB9
  have gc0 := (blk_cell HG8.out 0).trans rfl
  have gc1 := (blk_cell HG8.out 1).trans rfl
  have gc2 := (blk_cell HG8.out 2).trans rfl
  have gf0 := blk_frozen HG8.out 0
  have gf1 := blk_frozen HG8.out 1
  have gf2 := blk_frozen HG8.out 2
  have gl := lt_of_blk HG8.out
  have pc0 := (blk_cell HP8.out 0).trans rfl
  have pc1 := (blk_cell HP8.out 1).trans rfl
  have pc2 := (blk_cell HP8.out 2).trans rfl
  have pc3 := (blk_cell HP8.out 3).trans rfl
  have pc4 := (blk_cell HP8.out 4).trans rfl
  have pc5 := (blk_cell HP8.out 5).trans rfl
  have pc6 := (blk_cell HP8.out 6).trans rfl
  have pc7 := (blk_cell HP8.out 7).trans rfl
  have pc8 := (blk_cell HP8.out 8).trans rfl
  have pc9 := (blk_cell HP8.out 9).trans rfl
  have pc10 := (blk_cell HP8.out 10).trans rfl
  have pf0 := blk_frozen HP8.out 0
  have pf1 := blk_frozen HP8.out 1
  have pf2 := blk_frozen HP8.out 2
  have pf3 := blk_frozen HP8.out 3
  have pf4 := blk_frozen HP8.out 4
  have pf5 := blk_frozen HP8.out 5
  have pf6 := blk_frozen HP8.out 6
  have pf7 := blk_frozen HP8.out 7
  have pf8 := blk_frozen HP8.out 8
  have pf9 := blk_frozen HP8.out 9
  have pf10 := blk_frozen HP8.out 10
  have pl := lt_of_blk HP8.out
  go_region
  clear HPUT
  clear gc0 gc1 gc2 gf0 gf1 gf2 gl
  clear pc0 pc1 pc2 pc3 pc4 pc5 pc6 pc7 pc8 pc9 pc10 pf0 pf1 pf2 pf3 pf4 pf5 pf6 pf7 pf8 pf9 pf10 pl
  have HB9 := Aside0.mk (HX89.out.blk HB8.out (fun e => by rw [← e] at HMB8; exact absurd (HMB8.out.symm.trans HB8.out) (by simp)))
  have bc0 := (blk_cell HB9.out 0).trans rfl
  have bc1 := (blk_cell HB9.out 1).trans rfl
  have bc2 := (blk_cell HB9.out 2).trans rfl
  have bc3 := (blk_cell HB9.out 3).trans rfl
  have bc4 := (blk_cell HB9.out 4).trans rfl
  have bf0 := blk_frozen HB9.out 0
  have bf1 := blk_frozen HB9.out 1
  have bf2 := blk_frozen HB9.out 2
  have bf3 := blk_frozen HB9.out 3
  have bf4 := blk_frozen HB9.out 4
  have bl := lt_of_blk HB9.out
  go_wp2_with fail
  have HX910 := Aside0.mk (ex_put27 (Ex.refl (fun b => b = w.heap.size + 1 + 1) w9) (.inl rfl) (.int .u8 r.v.f0) (.int .i64 r.v.f1) (.string r.v.f2) (.slice r.B r.v.f3.length r.cb) (.int .i64 r.v.f4))
  refine bodyPost_ret (results_row_tmp2 rfl _ _ (w.heap.size + 1 + 1) 27 _ (0, 0) _ rfl (put27 HB9.out rfl _ _ _ _ _) Try.underlying27 rfl size27) rfl ?_
  refine ⟨rfl, ?_⟩
  clear bc0 bc1 bc2 bc3 bc4 bf0 bf1 bf2 bf3 bf4 bl
  generalize (((((w9.setCell ⟨w.heap.size + 1 + 1, 0, none⟩ (.int .u8 r.v.f0)).setCell ⟨w.heap.size + 1 + 1, 1, none⟩ (.int .i64 r.v.f1)).setCell ⟨w.heap.size + 1 + 1, 2, none⟩ (.string r.v.f2)).setCell ⟨w.heap.size + 1 + 1, 3, none⟩ (.slice r.B r.v.f3.length r.cb)).setCell ⟨w.heap.size + 1 + 1, 4, none⟩ (.int .i64 r.v.f4)) = w10 at HX910 ⊢
  exact put_old_end HT.out HX3.out HX37.out HX78.out HX89.out HX910.out (lt_of_blk HB3.out) HRW.out.1 HRW.out.2 HMB9.out HES.out HU.out HN.out HL2.out HR29.out hs8

end Go.Proofs.Ythkemcekcfccpaa.PBrandCompares
