/- 'take' at a list. -/
import Derived.Test.YthkemcekcfccpaaBrandComparesH3
namespace Go.Proofs.Ythkemcekcfccpaa.PBrandCompares
open Go.RowKit Go.Proofs.YthkemcekcfccpaaW.PrintWords Go.Proofs.YthkemcekcfccpaaW.PrintLast Go.Proofs.YthkemcekcfccpaaW.PrintMore
open Go.Proofs.Ythkemcekcfccpaa.GBrandCompares
set_option linter.unusedVariables false
set_option linter.unusedSimpArgs false

set_option maxHeartbeats 400000 in
theorem take_3a (x : S27) (p d : Int) (A : Option Addr) (c : Nat) (w : World) (g : Nat) (hp : 0 < p) (hp2 : p ≤ 512) (hk : x.f0 = 3) (hd : d = 0)
    (hg : w.heap[g]? = some (.cells #[.int .i64 p, .int .i64 d] 108 (0, 0))) :
    Calls Try.prog 55 #[.pointer (some ⟨g, 0, none⟩), .agg #[.int .u8 x.f0, .int .i64 x.f1, .string x.f2, .slice A x.f3.length c, .int .i64 x.f4]] w (Left g (takeV x p d) w) := by
  have hc0 : w.cell? ⟨g, 0, none⟩ = some (.int .i64 p) := (blk_cell hg 0).trans rfl
  have hc1 : w.cell? ⟨g, 1, none⟩ = some (.int .i64 d) := (blk_cell hg 1).trans rfl
  have hf0 := blk_frozen hg 0
  have hlt := lt_of_blk hg
  have hp0 : (p == 0) = false := by simp; omega
  have hd0 : (d == 0) = true := by simp; omega
  have HG := Aside0.mk hg
  have HT := Aside0.mk ((takeV_3 (x := x) (p := p) (d := d) (by omega) hk).trans (if_pos (.inl hd)))
  clear hg hd
  rw [hk]
  clear hk
  go_enter Try.func55, Try.ntmps55
  go_wp2
  go_quiet (fail)
  go_wp2
  go_ret
  exact left_nowN HG.out _ _ _ HT.out

set_option maxHeartbeats 400000 in
theorem take_3b (x : S27) (p d : Int) (A : Option Addr) (c : Nat) (w : World) (g : Nat) (hp : 0 < p) (hp2 : p ≤ 512) (hk : x.f0 = 3) (hd : ¬ d = 0) (hl : p - 1 < (x.f3.length : Int))
    (hg : w.heap[g]? = some (.cells #[.int .i64 p, .int .i64 d] 108 (0, 0))) :
    Calls Try.prog 55 #[.pointer (some ⟨g, 0, none⟩), .agg #[.int .u8 x.f0, .int .i64 x.f1, .string x.f2, .slice A x.f3.length c, .int .i64 x.f4]] w (Left g (takeV x p d) w) := by
  have hc0 : w.cell? ⟨g, 0, none⟩ = some (.int .i64 p) := (blk_cell hg 0).trans rfl
  have hc1 : w.cell? ⟨g, 1, none⟩ = some (.int .i64 d) := (blk_cell hg 1).trans rfl
  have hf0 := blk_frozen hg 0
  have hlt := lt_of_blk hg
  have hp0 : (p == 0) = false := by simp; omega
  have hd0 : (d == 0) = false := by simp; omega
  have hl0 : decide (p - 1 < (x.f3.length : Int)) = true := by simp; omega
  have HG := Aside0.mk hg
  have HT := Aside0.mk ((takeV_3 (x := x) (p := p) (d := d) (by omega) hk).trans (if_pos (.inr hl)))
  clear hg hd hl
  rw [hk]
  clear hk
  go_enter Try.func55, Try.ntmps55
  go_wp2
  go_quiet (fail)
  go_wp2
  go_ret
  exact left_nowN HG.out _ _ _ HT.out

set_option maxHeartbeats 1000000 in
theorem take_3c (x : S27) (p d : Int) (A : Option Addr) (c : Nat) (w : World) (g : Nat) (ok : Nat → Prop) (hp : 0 < p) (hp2 : p ≤ 512) (hk : x.f0 = 3) (hd : 0 < d) (hd2 : d ≤ 16) (hl : ¬ p - 1 < (x.f3.length : Int))
    (hF : Kd.F k27 w ok A x.f3.length x.f3) (hok : ∀ k, ok k → k ≠ g)
    (hg : w.heap[g]? = some (.cells #[.int .i64 p, .int .i64 d] 108 (0, 0)))
    (ih : ∀ y ∈ x.f3, ∀ (p d : Int) (A : Option Addr) (c : Nat) (w : World), 0 ≤ p → p ≤ 512 → 0 ≤ d → d ≤ 16 → Kd.F k27 w ok A y.f3.length y.f3 → w.heap[g]? = some (.cells #[.int .i64 p, .int .i64 d] 108 (0, 0)) →
      Calls Try.prog 55 #[.pointer (some ⟨g, 0, none⟩), .agg #[.int .u8 y.f0, .int .i64 y.f1, .string y.f2, .slice A y.f3.length c, .int .i64 y.f4]] w (Left g (takeV y p d) w)) :
    Calls Try.prog 55 #[.pointer (some ⟨g, 0, none⟩), .agg #[.int .u8 x.f0, .int .i64 x.f1, .string x.f2, .slice A x.f3.length c, .int .i64 x.f4]] w (Left g (takeV x p d) w) := by
  have hc0 : w.cell? ⟨g, 0, none⟩ = some (.int .i64 p) := (blk_cell hg 0).trans rfl
  have hc1 : w.cell? ⟨g, 1, none⟩ = some (.int .i64 d) := (blk_cell hg 1).trans rfl
  have hf0 := blk_frozen hg 0
  have hf1 := blk_frozen hg 1
  have hlt := lt_of_blk hg
  have hp0 : (p == 0) = false := by simp; omega
  have hd0 : (d == 0) = false := by simp; omega
  have hl0 : decide (p - 1 < (x.f3.length : Int)) = false := by simp; omega
  have HG := Aside0.mk hg
  have HF := Aside0.mk hF
  have IH := Aside0.mk ih
  have HT := Aside0.mk ((takeV_3 (x := x) (p := p) (d := d) (by omega) hk).trans (if_neg (fun h => h.elim (by omega) hl)))
  have HO := Aside0.mk hok
  have hlen : x.f3.length ≤ 511 := by omega
  clear hg hl hF ih hok
  rw [hk]
  clear hk
  go_enter Try.func55, Try.ntmps55
  go_wp2
  go_quiet (fail)
  go_wp2
  go_loopg [68] x.f3.length (fun m v wr => ∃ (k : Nat) (q : Int), v = .int .i64 k ∧ Aside0 (k + m = x.f3.length) ∧ Aside0 (Ex (fun b => b = g) w wr) ∧ Aside0 (0 ≤ q ∧ q ≤ 512) ∧
    Aside0 (wr.heap[g]? = some (.cells #[.int .i64 q, .int .i64 (d - 1)] 108 (0, 0))) ∧ Aside0 (takeL x.f3 (p - 1) (d - 1) = takeL (x.f3.drop k) q (d - 1)) ∧
    Aside0 (wr.heap[w.heap.size + 1]? = some (.cells #[.int .u8 3, .int .i64 x.f1, .string x.f2, .slice A x.f3.length c, .int .i64 x.f4] 27 (0, 0))))
  case atStart =>
    refine ⟨0, p - 1, rfl, ⟨by omega⟩, ⟨?_⟩, ⟨by omega⟩, ⟨?_⟩, ⟨by simp⟩, ⟨?_⟩⟩
    · exact ((((((Ex.refl (fun b => b = g) w).set (p := ⟨g, 0, none⟩) (.inl rfl) _).alloc _).alloc _).drewN _).set (p := ⟨g, 1, none⟩) (.inl rfl) _)
    · exact blk_put (blk_drewN (blk_alloc (blk_alloc (blk_put HG.out 0 _ rfl) _) _) _) 1 _ rfl
    · exact blk_far (blk_drewN (by rw [show w.heap.size + 1 = ((w.setCell ⟨g, 0, none⟩ (.int .i64 (p - 1))).alloc (.cells #[.int .u8 3, .int .i64 x.f1, .string x.f2, .slice A x.f3.length c, .int .i64 x.f4] 27)).heap.size by simp]; exact blk_new _ _) _) (p := ⟨g, 1, none⟩) (show w.heap.size + 1 ≠ g by omega) _
  case round =>
    obtain ⟨k, q, rfl, HM, HX, HQ, HG2, HL, HB⟩ := hrel
    clear hc0 hc1 hf0 hf1 HG
    by_cases hk : k < x.f3.length
    · have hF2 := ex_F HX.out HF.out (fun k hk => HO.out k hk)
      obtain ⟨ad, A3, c3, rfl, e0, e1, e2, e3, e4, hc3, hF3⟩ := at_F27 hF2 k hk
      have HF3 := Aside0.mk hF3
      clear hF2 hF3
      have hq0 : wr.cell? ⟨g, 0, none⟩ = some (.int .i64 q) := (blk_cell HG2.out 0).trans rfl
      have hq1 : wr.cell? ⟨g, 1, none⟩ = some (.int .i64 (d - 1)) := (blk_cell HG2.out 1).trans rfl
      have hkk : (k : Int) < (x.f3.length : Int) := by omega
      have hkb : (k : Int) < 511 := by omega
      go_wp2_with fail
      have hbd := takeV_bounds (rd_T27 x.f3 k) (p := q) (d := d - 1) (by have := HQ.out; omega) (by omega)
      have hdr := HL.out
      rw [rd_drop hk, takeL] at hdr
      refine (IH.out (rd_T27 x.f3 k) (rd_mem hk) q (d - 1) A3 c3 _ HQ.out.1 HQ.out.2 (by omega) (by omega) (Kd.F_alloc HF3.out _) (blk_alloc HG2.out _)).mono ?_
      rintro e w1 ⟨rfl, hx1, hg1⟩
      generalize takeV (rd_T27 x.f3 k) q (d - 1) = t at hbd hdr hx1 hg1
      obtain ⟨b, q', d'⟩ := t
      dsimp only at hbd hdr hg1
      have HX1 := Aside0.mk ((HX.out.alloc _).trans hx1 (fun b hb => .inl hb))
      have HG1 := Aside0.mk hg1
      have HD := Aside0.mk hdr
      have HB1 := Aside0.mk (hx1.blk (blk_alloc HB.out _) (show ¬ (w.heap.size + 1 = g) by omega))
      clear hx1 hg1 hdr
      cases b
      · go_wp2
        go_ret
        refine left_mk (HT.out.trans ?_) HX1.out HG1.out
        rw [HD.out]
      · have hd' : d' = d - 1 := hbd.2.2.2.2 rfl
        subst hd'
        have HQ1 := Aside0.mk (And.intro hbd.1 (Int.le_trans hbd.2.1 HQ.out.2))
        clear hbd
        go_wp2
        go_roundg (gk - 1)
        case measure => have := HM.out; omega
        case rel => exact ⟨k + 1, q', by go_num, ⟨by have := HM.out; omega⟩, HX1, HQ1, HG1, HD, HB1⟩
    · have hq1 : wr.cell? ⟨g, 1, none⟩ = some (.int .i64 (d - 1)) := (blk_cell HG2.out 1).trans rfl
      have hf1 := blk_frozen HG2.out 1
      have b0 : wr.cell? ⟨w.heap.size + 1, 0, none⟩ = some (.int .u8 3) := (blk_cell HB.out 0).trans rfl
      have b1 : wr.cell? ⟨w.heap.size + 1, 1, none⟩ = some (.int .i64 x.f1) := (blk_cell HB.out 1).trans rfl
      have b2 : wr.cell? ⟨w.heap.size + 1, 2, none⟩ = some (.string x.f2) := (blk_cell HB.out 2).trans rfl
      have b3 : wr.cell? ⟨w.heap.size + 1, 3, none⟩ = some (.slice A x.f3.length c) := (blk_cell HB.out 3).trans rfl
      have b4 : wr.cell? ⟨w.heap.size + 1, 4, none⟩ = some (.int .i64 x.f4) := (blk_cell HB.out 4).trans rfl
      have bf := blk_frozen HB.out 3
      have hne : ¬ g = w.heap.size + 1 := by omega
      have hne2 : ¬ w.heap.size + 1 = g := by omega
      have hkk : ¬ (k : Int) < (x.f3.length : Int) := by omega
      have hnil : x.f3.drop k = [] := by simp; omega
      have hdr := HL.out
      rw [hnil, takeL] at hdr
      have HD := Aside0.mk hdr
      clear hdr hnil
      have HT2 := Aside0.mk (HT.out.trans (by rw [HD.out]) : takeV x p d = (decide (x.f1 = 0 ∧ x.f2.size = 0 ∧ x.f4 = 0), q, d - 1 + 1))
      go_wp2
      all_goals
        go_ret
        refine left_mk (HT2.out.trans ?_) ((HX.out.set (p := ⟨g, 1, none⟩) (.inl rfl) _).set (p := ⟨w.heap.size + 1, 3, none⟩) (.inr (Nat.le_succ _)) _) (blk_far (blk_put HG2.out 1 _ rfl) (p := ⟨w.heap.size + 1, 3, none⟩) hne _)
        clear HT2 HT HD HX HG2 HB HL HF IH HO HQ HM b0 b1 b2 b3 b4 bf hq1 hf1
        rw [show d - 1 + 1 = d by omega]
        simp_all [toList_nil]

theorem takeV_size (n : Nat) : ∀ x : S27, SizeOf.sizeOf x ≤ n → ∀ (p d : Int) (A : Option Addr) (c : Nat) (w : World) (g : Nat) (ok : Nat → Prop), 0 ≤ p → p ≤ 512 → 0 ≤ d → d ≤ 16 → Kd.F k27 w ok A x.f3.length x.f3 → (∀ k, ok k → k ≠ g) →
    w.heap[g]? = some (.cells #[.int .i64 p, .int .i64 d] 108 (0, 0)) →
    Calls Try.prog 55 #[.pointer (some ⟨g, 0, none⟩), .agg #[.int .u8 x.f0, .int .i64 x.f1, .string x.f2, .slice A x.f3.length c, .int .i64 x.f4]] w (Left g (takeV x p d) w) := by
  induction n with
  | zero => intro x hx; cases x; simp at hx
  | succ n ih =>
    intro x hx p d A c w g ok hp hp2 hd hd2 hF hok hg
    by_cases h : p = 0
    · exact take_z x p d A c w g h hg
    have hp : 0 < p := by omega
    by_cases h0 : x.f0 = 0
    · exact take_0 x p d A c w g hp hp2 h0 hg
    by_cases h1 : x.f0 = 1
    · exact take_1 x p d A c w g hp hp2 h1 hg
    by_cases h2 : x.f0 = 2
    · by_cases hs : 256 < x.f2.size
      · exact take_2b x p d A c w g hp hp2 h2 hs hg
      · exact take_2 x p d A c w g hp hp2 h2 hs hg
    by_cases h4 : x.f0 = 4
    · by_cases hs : x.f4 < 1
      · exact take_4b x p d A c w g hp hp2 h4 hs hg
      · exact take_4 x p d A c w g hp hp2 h4 hs hg
    by_cases h3 : x.f0 = 3
    · by_cases hz : d = 0
      · exact take_3a x p d A c w g hp hp2 h3 hz hg
      by_cases hl : p - 1 < (x.f3.length : Int)
      · exact take_3b x p d A c w g hp hp2 h3 hz hl hg
      · refine take_3c x p d A c w g ok hp hp2 h3 (by omega) hd2 hl hF hok hg ?_
        intro y hy p d A c w hp hp2 hd hd2 hF hg
        have hs := List.sizeOf_lt_of_mem hy
        exact ih y (by cases x; simp at hx hs ⊢; omega) p d A c w g ok hp hp2 hd hd2 hF hok hg
    · exact take_5 x p d A c w g hp hp2 h0 h1 h2 h4 h3 hg

/-- (*left).take -/
theorem take_calls (x : S27) (p d : Int) (A : Option Addr) (c : Nat) (w : World) (g : Nat) (ok : Nat → Prop) (hp : 0 ≤ p) (hp2 : p ≤ 512) (hd : 0 ≤ d) (hd2 : d ≤ 16) (hF : Kd.F k27 w ok A x.f3.length x.f3) (hok : ∀ k, ok k → k ≠ g)
    (hg : w.heap[g]? = some (.cells #[.int .i64 p, .int .i64 d] 108 (0, 0))) :
    Calls Try.prog 55 #[.pointer (some ⟨g, 0, none⟩), .agg #[.int .u8 x.f0, .int .i64 x.f1, .string x.f2, .slice A x.f3.length c, .int .i64 x.f4]] w (Left g (takeV x p d) w) :=
  takeV_size _ x (Nat.le_refl _) p d A c w g ok hp hp2 hd hd2 hF hok hg

set_option maxHeartbeats 400000 in
/-- measure -/
theorem measure_calls (x : S27) (A : Option Addr) (c : Nat) (w : World) (ok : Nat → Prop) (hF : Kd.F k27 w ok A x.f3.length x.f3) :
    Calls Try.prog 52 #[.agg #[.int .u8 x.f0, .int .i64 x.f1, .string x.f2, .slice A x.f3.length c, .int .i64 x.f4]] w fun e w' => e = .returned (.int .i64 (measureV x)) ∧ Ex (fun _ => False) w w' := by
  have HF := Aside0.mk (Kd.F_bound hF)
  clear hF
  go_enter Try.func52, Try.ntmps52
  go_wp2_with fail
  refine (take_calls x 512 16 A c _ (w.heap.size + 1) (fun k => ok k ∧ k < w.heap.size) (by omega) (by omega) (by omega) (by omega) (Kd.F_alloc (Kd.F_alloc HF.out _) _) (fun k hk => by have := hk.2; omega) (blk_new2 _ _ _)).mono ?_
  rintro e w1 ⟨rfl, hx1, hg1⟩
  have hbd := takeV_bounds x (p := 512) (d := 16) (by omega) (by omega)
  obtain ⟨t, ht⟩ : ∃ t, t = takeV x 512 16 := ⟨_, rfl⟩
  have hm : measureV x = if t.1 then 512 - t.2.1 else 0 := by rw [measureV, ← ht]
  rw [← ht] at hbd hg1
  rw [← ht]
  clear ht
  obtain ⟨b, q, d⟩ := t
  dsimp only at hbd hg1
  have HM := Aside0.mk hm
  clear hm
  have HX1 := Aside0.mk hx1
  have hq0 : w1.cell? ⟨w.heap.size + 1, 0, none⟩ = some (.int .i64 q) := (blk_cell hg1 0).trans rfl
  clear hx1 hg1
  cases b
  · go_wp2
    go_ret
    exact ⟨by rw [HM.out]; rfl, ((Ex.refl _ _).alloc _).alloc _ |>.trans HX1.out (fun b hb => .inr (by subst hb; exact Nat.le_succ _))⟩
  · go_wp2
    go_ret
    exact ⟨by rw [HM.out]; rfl, ((Ex.refl _ _).alloc _).alloc _ |>.trans HX1.out (fun b hb => .inr (by subst hb; exact Nat.le_succ _))⟩

set_option maxHeartbeats 400000 in
/-- May -/
theorem may_calls (x : S27) (A : Option Addr) (c : Nat) (w : World) (ok : Nat → Prop) (hF : Kd.F k27 w ok A x.f3.length x.f3) :
    Calls Try.prog 38 #[.agg #[.int .u8 x.f0, .int .i64 x.f1, .string x.f2, .slice A x.f3.length c, .int .i64 x.f4]] w fun e w' => e = .returned (.bool (mayV x)) ∧ Ex (fun _ => False) w w' := by
  have HF := Aside0.mk hF
  clear hF
  go_enter Try.func38, Try.ntmps38
  go_wp2_with fail
  refine (measure_calls x A c _ ok (Kd.F_alloc HF.out _)).mono ?_
  rintro e w1 ⟨rfl, hx1⟩
  have HX1 := Aside0.mk hx1
  clear hx1
  go_wp2
  go_ret
  exact ⟨rfl, ((Ex.refl _ _).alloc _).trans HX1.out (fun _ h => h.elim)⟩

end Go.Proofs.Ythkemcekcfccpaa.PBrandCompares
