/- 'Compare' of package brand. -/
import Derived.Test.YthkemcekcfccpaaBrandComparesM1
namespace Go.Proofs.Ythkemcekcfccpaa.PBrandCompares
open Go.RowKit Go.Proofs.YthkemcekcfccpaaW.PrintWords Go.Proofs.YthkemcekcfccpaaW.PrintLast Go.Proofs.YthkemcekcfccpaaW.PrintMore
open Go.Proofs.Ythkemcekcfccpaa.GBrandCompares
set_option linter.unusedVariables false
set_option linter.unusedSimpArgs false

set_option maxHeartbeats 1000000 in
theorem compare_no1 (x y : S27) (A B : Option Addr) (c d : Nat) (w : World) (ok : Nat → Prop) (hF : Kd.F k27 w ok A x.f3.length x.f3) (hG : Kd.F k27 w ok B y.f3.length y.f3) (hm : mayV x = false) (hn : mayV y = false) :
    Calls Try.prog 9 #[.agg #[.int .u8 x.f0, .int .i64 x.f1, .string x.f2, .slice A x.f3.length c, .int .i64 x.f4], .agg #[.int .u8 y.f0, .int .i64 y.f1, .string y.f2, .slice B y.f3.length d, .int .i64 y.f4]] w fun e w' => e = .returned (.tuple #[.int .u8 0, .int .i64 2]) ∧ Ex (fun _ => False) w w' := by
  have HF := Aside0.mk hF
  have HG := Aside0.mk hG
  have HM := Aside0.mk hm
  have HN := Aside0.mk hn
  clear hF hG hm hn
  go_enter Try.func9, Try.ntmps9
  go_wp2_with fail
  refine (of_no x A c _ ok (Kd.F_alloc (Kd.F_alloc HF.out _) _) HM.out).mono ?_
  rintro e w1 ⟨rfl, hx1⟩
  obtain ⟨hc, hf⟩ := hx1.cells
  have HG1 := Aside0.mk (ex_F hx1 (Kd.F_alloc (Kd.F_alloc HG.out _) _) (fun _ _ h => h))
  have HX1 := Aside0.mk ((((Ex.refl (fun _ => False) w).alloc _).alloc _).trans hx1 (fun _ h => h.elim))
  have hlx : w.heap.size + 1 < w1.heap.size := by have := hx1.size; simp at this; omega
  have hlx0 : w.heap.size < w1.heap.size := by omega
  clear hx1
  go_wp2_with fail
  refine (of_no y B d _ ok (Kd.F_alloc HG1.out _) HN.out).mono ?_
  rintro e w2 ⟨rfl, hx2⟩
  obtain ⟨hc2, hf2⟩ := hx2.cells
  have HX2 := Aside0.mk ((HX1.out.alloc _).trans hx2 (fun _ h => h.elim))
  clear hc hf
  go_wp2
  go_ret2
  exact ⟨rfl, HX2.out.alloc _⟩

set_option maxHeartbeats 1000000 in
theorem compare_no2 (x y : S27) (A B : Option Addr) (c d : Nat) (w : World) (ok : Nat → Prop) (hF : Kd.F k27 w ok A x.f3.length x.f3) (hG : Kd.F k27 w ok B y.f3.length y.f3) (hm : mayV x = false) (hn : mayV y = true) :
    Calls Try.prog 9 #[.agg #[.int .u8 x.f0, .int .i64 x.f1, .string x.f2, .slice A x.f3.length c, .int .i64 x.f4], .agg #[.int .u8 y.f0, .int .i64 y.f1, .string y.f2, .slice B y.f3.length d, .int .i64 y.f4]] w fun e w' => e = .returned (.tuple #[.int .u8 0, .int .i64 2]) ∧ Ex (fun _ => False) w w' := by
  have HF := Aside0.mk hF
  have HG := Aside0.mk hG
  have HM := Aside0.mk hm
  have HN := Aside0.mk hn
  clear hF hG hm hn
  go_enter Try.func9, Try.ntmps9
  go_wp2_with fail
  refine (of_no x A c _ ok (Kd.F_alloc (Kd.F_alloc HF.out _) _) HM.out).mono ?_
  rintro e w1 ⟨rfl, hx1⟩
  obtain ⟨hc, hf⟩ := hx1.cells
  have HG1 := Aside0.mk (ex_F hx1 (Kd.F_alloc (Kd.F_alloc HG.out _) _) (fun _ _ h => h))
  have HX1 := Aside0.mk ((((Ex.refl (fun _ => False) w).alloc _).alloc _).trans hx1 (fun _ h => h.elim))
  have hlx : w.heap.size + 1 < w1.heap.size := by have := hx1.size; simp at this; omega
  have hlx0 : w.heap.size < w1.heap.size := by omega
  clear hx1
  go_wp2_with fail
  refine (of_yes y B d _ ok (Kd.F_alloc HG1.out _) HN.out).mono ?_
  rintro e w2 ⟨m2, k1, k2, rfl, k4⟩
  obtain ⟨t2, u2, hu2⟩ := m2.val_iface
  rw [hu2]
  have H2 := Aside0.mk (And.intro k1 (And.intro k2 hu2))
  clear k1 k2 hu2
  have hx2 := k4
  clear k4
  obtain ⟨hc2, hf2⟩ := hx2.cells
  have HX2 := Aside0.mk ((HX1.out.alloc _).trans hx2 (fun _ h => h.elim))
  clear hc hf
  go_wp2
  go_ret2
  exact ⟨rfl, HX2.out.alloc _⟩

set_option maxHeartbeats 1000000 in
theorem compare_no3 (x y : S27) (A B : Option Addr) (c d : Nat) (w : World) (ok : Nat → Prop) (hF : Kd.F k27 w ok A x.f3.length x.f3) (hG : Kd.F k27 w ok B y.f3.length y.f3) (hm : mayV x = true) (hn : mayV y = false) :
    Calls Try.prog 9 #[.agg #[.int .u8 x.f0, .int .i64 x.f1, .string x.f2, .slice A x.f3.length c, .int .i64 x.f4], .agg #[.int .u8 y.f0, .int .i64 y.f1, .string y.f2, .slice B y.f3.length d, .int .i64 y.f4]] w fun e w' => e = .returned (.tuple #[.int .u8 0, .int .i64 2]) ∧ Ex (fun _ => False) w w' := by
  have HF := Aside0.mk hF
  have HG := Aside0.mk hG
  have HM := Aside0.mk hm
  have HN := Aside0.mk hn
  clear hF hG hm hn
  go_enter Try.func9, Try.ntmps9
  go_wp2_with fail
  refine (of_yes x A c _ ok (Kd.F_alloc (Kd.F_alloc HF.out _) _) HM.out).mono ?_
  rintro e w1 ⟨m, h1, h2, rfl, h4⟩
  obtain ⟨t1, u1, hu1⟩ := m.val_iface
  rw [hu1]
  have H1 := Aside0.mk (And.intro h1 (And.intro h2 hu1))
  clear h1 h2 hu1
  have hx1 := h4
  clear h4
  obtain ⟨hc, hf⟩ := hx1.cells
  have HG1 := Aside0.mk (ex_F hx1 (Kd.F_alloc (Kd.F_alloc HG.out _) _) (fun _ _ h => h))
  have HX1 := Aside0.mk ((((Ex.refl (fun _ => False) w).alloc _).alloc _).trans hx1 (fun _ h => h.elim))
  have hlx : w.heap.size + 1 < w1.heap.size := by have := hx1.size; simp at this; omega
  have hlx0 : w.heap.size < w1.heap.size := by omega
  clear hx1
  go_wp2_with fail
  refine (of_no y B d _ ok (Kd.F_alloc HG1.out _) HN.out).mono ?_
  rintro e w2 ⟨rfl, hx2⟩
  obtain ⟨hc2, hf2⟩ := hx2.cells
  have HX2 := Aside0.mk ((HX1.out.alloc _).trans hx2 (fun _ h => h.elim))
  clear hc hf
  go_wp2
  go_ret2
  exact ⟨rfl, HX2.out.alloc _⟩

set_option maxHeartbeats 1000000 in
theorem compare_same (x y : S27) (A B : Option Addr) (c d : Nat) (w : World) (ok : Nat → Prop) (hF : Kd.F k27 w ok A x.f3.length x.f3) (hG : Kd.F k27 w ok B y.f3.length y.f3) (hm : mayV x = true) (hn : mayV y = true) (hcmp : ∀ m m2, MarkOf x m → MarkOf y m2 → m.cmp m2 = 1) :
    Calls Try.prog 9 #[.agg #[.int .u8 x.f0, .int .i64 x.f1, .string x.f2, .slice A x.f3.length c, .int .i64 x.f4], .agg #[.int .u8 y.f0, .int .i64 y.f1, .string y.f2, .slice B y.f3.length d, .int .i64 y.f4]] w fun e w' => e = .returned (.tuple #[.int .u8 1, .int .i64 0]) ∧ Ex (fun _ => False) w w' := by
  have hmf : ∀ (fn : Fn) (first cap : Array Value) (w : World), (Instr.makeFunc fn first cap).run Try.prog w = .ok (.func fn first cap) w := fun _ _ _ _ => rfl
  have HF := Aside0.mk hF
  have HG := Aside0.mk hG
  have HM := Aside0.mk hm
  have HN := Aside0.mk hn
  have HC := Aside0.mk hcmp
  clear hF hG hm hn hcmp
  go_enter Try.func9, Try.ntmps9
  go_wp2_with fail
  refine (of_yes x A c _ ok (Kd.F_alloc (Kd.F_alloc HF.out _) _) HM.out).mono ?_
  rintro e w1 ⟨m, h1, h2, rfl, h4⟩
  obtain ⟨t1, u1, hu1⟩ := m.val_iface
  rw [hu1]
  have H1 := Aside0.mk (And.intro h1 (And.intro h2 hu1))
  clear h1 h2 hu1
  have hx1 := h4
  clear h4
  obtain ⟨hc, hf⟩ := hx1.cells
  have HG1 := Aside0.mk (ex_F hx1 (Kd.F_alloc (Kd.F_alloc HG.out _) _) (fun _ _ h => h))
  have HX1 := Aside0.mk ((((Ex.refl (fun _ => False) w).alloc _).alloc _).trans hx1 (fun _ h => h.elim))
  have hlx : w.heap.size + 1 < w1.heap.size := by have := hx1.size; simp at this; omega
  have hlx0 : w.heap.size < w1.heap.size := by omega
  clear hx1
  go_wp2_with fail
  refine (of_yes y B d _ ok (Kd.F_alloc HG1.out _) HN.out).mono ?_
  rintro e w2 ⟨m2, k1, k2, rfl, k4⟩
  obtain ⟨t2, u2, hu2⟩ := m2.val_iface
  rw [hu2]
  have H2 := Aside0.mk (And.intro k1 (And.intro k2 hu2))
  clear k1 k2 hu2
  have hx2 := k4
  clear k4
  obtain ⟨hc2, hf2⟩ := hx2.cells
  have HB6 := Aside0.mk (hx2.blk (blk_new1 w1 _) (fun h => h))
  have HX2 := Aside0.mk ((HX1.out.alloc _).trans hx2 (fun _ h => h.elim))
  clear hc hf
  go_wp2_with fail
  refine Calls.mono (met_ok 31 _ (fun b => b = w2.heap.size + 1) (fun w' => w' = (((w2.alloc (.cells #[.iface t2 u2] 45)).alloc (.cells #[.int .u8 0] 30)).alloc (.cells #[.bool false] 4)).setCell ⟨w2.heap.size + 1, 0, none⟩ (.int .u8 1)) _ (by intro b hb; rw [hb]; simp) (fun w => enters_ Try.func31 (by kernel_rfl) rfl _ w) ?_) ?_
  · refine (same_marks m m2 H1.out.2.1 _ _ _ _ (by rw [H1.out.2.2]; exact blk_alloc (blk_alloc (blk_alloc HB6.out _) _) _) (by rw [H2.out.2.2]; exact blk_alloc (blk_alloc (blk_new1 _ _) _) _) (blk_alloc (blk_new2 _ _ _) _) (HC.out m m2 H1.out.1 H2.out.1)).mono ?_
    rintro e w' ⟨rfl, hw'⟩
    exact ⟨rfl, by rw [hw']; exact (Ex.refl (fun b => b = w2.heap.size + 1) _).set (p := ⟨w2.heap.size + 1, 0, none⟩) (.inl rfl) _, hw'⟩
  rintro e w3 ⟨rfl, w4, hw4, _, rfl⟩
  subst hw4
  go_wp2
  go_ret2
  exact ⟨rfl, ((HX2.out.alloc _).alloc _).alloc _⟩

set_option maxHeartbeats 1000000 in
theorem compare_unlike (x y : S27) (A B : Option Addr) (c d : Nat) (w : World) (ok : Nat → Prop) (hF : Kd.F k27 w ok A x.f3.length x.f3) (hG : Kd.F k27 w ok B y.f3.length y.f3) (hm : mayV x = true) (hn : mayV y = true) (hcmp : ∀ m m2, MarkOf x m → MarkOf y m2 → m.cmp m2 = 0) :
    Calls Try.prog 9 #[.agg #[.int .u8 x.f0, .int .i64 x.f1, .string x.f2, .slice A x.f3.length c, .int .i64 x.f4], .agg #[.int .u8 y.f0, .int .i64 y.f1, .string y.f2, .slice B y.f3.length d, .int .i64 y.f4]] w fun e w' => e = .returned (.tuple #[.int .u8 0, .int .i64 0]) ∧ Ex (fun _ => False) w w' := by
  have hmf : ∀ (fn : Fn) (first cap : Array Value) (w : World), (Instr.makeFunc fn first cap).run Try.prog w = .ok (.func fn first cap) w := fun _ _ _ _ => rfl
  have HF := Aside0.mk hF
  have HG := Aside0.mk hG
  have HM := Aside0.mk hm
  have HN := Aside0.mk hn
  have HC := Aside0.mk hcmp
  clear hF hG hm hn hcmp
  go_enter Try.func9, Try.ntmps9
  go_wp2_with fail
  refine (of_yes x A c _ ok (Kd.F_alloc (Kd.F_alloc HF.out _) _) HM.out).mono ?_
  rintro e w1 ⟨m, h1, h2, rfl, h4⟩
  obtain ⟨t1, u1, hu1⟩ := m.val_iface
  rw [hu1]
  have H1 := Aside0.mk (And.intro h1 (And.intro h2 hu1))
  clear h1 h2 hu1
  have hx1 := h4
  clear h4
  obtain ⟨hc, hf⟩ := hx1.cells
  have HG1 := Aside0.mk (ex_F hx1 (Kd.F_alloc (Kd.F_alloc HG.out _) _) (fun _ _ h => h))
  have HX1 := Aside0.mk ((((Ex.refl (fun _ => False) w).alloc _).alloc _).trans hx1 (fun _ h => h.elim))
  have hlx : w.heap.size + 1 < w1.heap.size := by have := hx1.size; simp at this; omega
  have hlx0 : w.heap.size < w1.heap.size := by omega
  clear hx1
  go_wp2_with fail
  refine (of_yes y B d _ ok (Kd.F_alloc HG1.out _) HN.out).mono ?_
  rintro e w2 ⟨m2, k1, k2, rfl, k4⟩
  obtain ⟨t2, u2, hu2⟩ := m2.val_iface
  rw [hu2]
  have H2 := Aside0.mk (And.intro k1 (And.intro k2 hu2))
  clear k1 k2 hu2
  have hx2 := k4
  clear k4
  obtain ⟨hc2, hf2⟩ := hx2.cells
  have HB6 := Aside0.mk (hx2.blk (blk_new1 w1 _) (fun h => h))
  have HX2 := Aside0.mk ((HX1.out.alloc _).trans hx2 (fun _ h => h.elim))
  clear hc hf
  go_wp2_with fail
  refine Calls.mono (met_ok 31 _ (fun _ => False) (fun w' => w' = ((w2.alloc (.cells #[.iface t2 u2] 45)).alloc (.cells #[.int .u8 0] 30)).alloc (.cells #[.bool false] 4)) _ (by intro b hb; exact hb.elim) (fun w => enters_ Try.func31 (by kernel_rfl) rfl _ w) ?_) ?_
  · refine (unlike_marks m m2 H1.out.2.1 _ _ _ _ (by rw [H1.out.2.2]; exact blk_alloc (blk_alloc (blk_alloc HB6.out _) _) _) (by rw [H2.out.2.2]; exact blk_alloc (blk_alloc (blk_new1 _ _) _) _) (HC.out m m2 H1.out.1 H2.out.1)).mono ?_
    rintro e w' ⟨rfl, hw'⟩
    exact ⟨rfl, by rw [hw']; exact Ex.refl _ _, hw'⟩
  rintro e w3 ⟨rfl, w4, hw4, _, rfl⟩
  subst hw4
  go_wp2
  go_ret2
  exact ⟨rfl, ((HX2.out.alloc _).alloc _).alloc _⟩

set_option maxHeartbeats 1000000 in
theorem compare_panic (x y : S27) (A B : Option Addr) (c d : Nat) (w : World) (ok : Nat → Prop) (hF : Kd.F k27 w ok A x.f3.length x.f3) (hG : Kd.F k27 w ok B y.f3.length y.f3) (hm : mayV x = true) (hn : mayV y = true) (hcmp : ∀ m m2, MarkOf x m → MarkOf y m2 → m.cmp m2 = 2) :
    Calls Try.prog 9 #[.agg #[.int .u8 x.f0, .int .i64 x.f1, .string x.f2, .slice A x.f3.length c, .int .i64 x.f4], .agg #[.int .u8 y.f0, .int .i64 y.f1, .string y.f2, .slice B y.f3.length d, .int .i64 y.f4]] w fun e w' => e = .returned (.tuple #[.int .u8 2, .int .i64 0]) ∧ Ex (fun _ => False) w w' := by
  have hmf : ∀ (fn : Fn) (first cap : Array Value) (w : World), (Instr.makeFunc fn first cap).run Try.prog w = .ok (.func fn first cap) w := fun _ _ _ _ => rfl
  have HF := Aside0.mk hF
  have HG := Aside0.mk hG
  have HM := Aside0.mk hm
  have HN := Aside0.mk hn
  have HC := Aside0.mk hcmp
  clear hF hG hm hn hcmp
  go_enter Try.func9, Try.ntmps9
  go_wp2_with fail
  refine (of_yes x A c _ ok (Kd.F_alloc (Kd.F_alloc HF.out _) _) HM.out).mono ?_
  rintro e w1 ⟨m, h1, h2, rfl, h4⟩
  obtain ⟨t1, u1, hu1⟩ := m.val_iface
  rw [hu1]
  have H1 := Aside0.mk (And.intro h1 (And.intro h2 hu1))
  clear h1 h2 hu1
  have hx1 := h4
  clear h4
  obtain ⟨hc, hf⟩ := hx1.cells
  have HG1 := Aside0.mk (ex_F hx1 (Kd.F_alloc (Kd.F_alloc HG.out _) _) (fun _ _ h => h))
  have HX1 := Aside0.mk ((((Ex.refl (fun _ => False) w).alloc _).alloc _).trans hx1 (fun _ h => h.elim))
  have hlx : w.heap.size + 1 < w1.heap.size := by have := hx1.size; simp at this; omega
  have hlx0 : w.heap.size < w1.heap.size := by omega
  clear hx1
  go_wp2_with fail
  refine (of_yes y B d _ ok (Kd.F_alloc HG1.out _) HN.out).mono ?_
  rintro e w2 ⟨m2, k1, k2, rfl, k4⟩
  obtain ⟨t2, u2, hu2⟩ := m2.val_iface
  rw [hu2]
  have H2 := Aside0.mk (And.intro k1 (And.intro k2 hu2))
  clear k1 k2 hu2
  have hx2 := k4
  clear k4
  obtain ⟨hc2, hf2⟩ := hx2.cells
  have HB6 := Aside0.mk (hx2.blk (blk_new1 w1 _) (fun h => h))
  have HX2 := Aside0.mk ((HX1.out.alloc _).trans hx2 (fun _ h => h.elim))
  clear hc hf
  go_wp2_with fail
  refine Calls.mono (met_panic 31 _ (fun _ => False) (fun w' => w' = ((w2.alloc (.cells #[.iface t2 u2] 45)).alloc (.cells #[.int .u8 0] 30)).alloc (.cells #[.bool false] 4)) _ (by intro b hb; exact hb.elim) (fun w => enters_ Try.func31 (by kernel_rfl) rfl _ w) ?_) ?_
  · refine (panic_marks m m2 H1.out.2.1 _ _ _ _ (by rw [H1.out.2.2]; exact blk_alloc (blk_alloc (blk_alloc HB6.out _) _) _) (by rw [H2.out.2.2]; exact blk_alloc (blk_alloc (blk_new1 _ _) _) _) (HC.out m m2 H1.out.1 H2.out.1)).mono ?_
    rintro e w' ⟨rfl, hw'⟩
    exact ⟨⟨10, _, .inl rfl, rfl⟩, by rw [hw']; exact Ex.refl _ _, hw'⟩
  rintro e w3 ⟨rfl, w4, hw4, _, rfl⟩
  subst hw4
  go_wp2
  go_ret2
  exact ⟨rfl, ((HX2.out.alloc _).alloc _).alloc _⟩

end Go.Proofs.Ythkemcekcfccpaa.PBrandCompares
