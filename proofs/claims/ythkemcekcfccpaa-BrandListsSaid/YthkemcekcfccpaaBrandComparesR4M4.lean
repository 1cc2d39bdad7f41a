/-
  'lives' of posternlaw04: some of the chapter's answers.
-/
import Derived.Test.YthkemcekcfccpaaBrandComparesR4M3
import Derived.Test.YthkemcekcfccpaaPBrandComparesx2
namespace Go.Proofs.Ythkemcekcfccpaa.PBrandCompares
open Go.RowKit Go.Proofs.YthkemcekcfccpaaW.PrintWords Go.Proofs.YthkemcekcfccpaaW.PrintLast Go.Proofs.YthkemcekcfccpaaW.PrintMore
open Go.Proofs.Ythkemcekcfccpaa.GBrandCompares
set_option linter.unusedVariables false
set_option linter.unusedSimpArgs false

theorem empty_b : (⟨#[]⟩ : ByteArray) = ByteArray.empty := rfl
theorem may_num (n : Int) : mayV (num n) = true := by simp [mayV, measureV, takeV, num, empty_b]
theorem may_txt (s : ByteArray) (h : s.size ≤ 256) : mayV (txt s) = true := by
  have : ¬ 256 < s.size := by omega
  simp [mayV, measureV, takeV, txt, this]
theorem may_nil : mayV (lst []) = true := by simp [mayV, measureV, takeV, takeL, lst, empty_b]
theorem may_two (m n : Int) : mayV (lst [num m, num n]) = true := by simp [mayV, measureV, takeV, takeL, lst, num, empty_b]

theorem of_num {n : Int} {m : Mk} (h : MarkOf (num n) m) : m = .number n := by
  cases m with
  | nothing => exact absurd rfl h.1
  | number k => rw [h.2]; rfl
  | text x => exact absurd (show (1 : Int) = 2 from h.1) (by decide)
  | refer x => exact absurd (show (1 : Int) = 4 from h.1) (by decide)
  | row v => exact absurd (show (1 : Int) = 3 from h.1) (by decide)
  | pair x y => exact absurd (show (1 : Int) = 3 from h.1) (by decide)
theorem of_txt {s : ByteArray} {m : Mk} (h : MarkOf (txt s) m) : m = .text s := by
  cases m with
  | nothing => exact absurd rfl h.2.1
  | number x => exact absurd (show (2 : Int) = 1 from h.1) (by decide)
  | text k => rw [h.2]; rfl
  | refer x => exact absurd (show (2 : Int) = 4 from h.1) (by decide)
  | row v => exact absurd (show (2 : Int) = 3 from h.1) (by decide)
  | pair x y => exact absurd (show (2 : Int) = 3 from h.1) (by decide)
theorem of_nil {m : Mk} (h : MarkOf (lst []) m) : ∃ v, m = .row v := by
  cases m with
  | nothing => exact absurd rfl h.2.2.2
  | number x => exact absurd (show (3 : Int) = 1 from h.1) (by decide)
  | text x => exact absurd (show (3 : Int) = 2 from h.1) (by decide)
  | refer x => exact absurd (show (3 : Int) = 4 from h.1) (by decide)
  | row v => exact ⟨v, rfl⟩
  | pair a b =>
    obtain ⟨_, y, z, hl, _⟩ := h
    cases hl
theorem of_two {a b : Int} {m : Mk} (h : MarkOf (lst [num a, num b]) m) : m = .pair (.number a) (.number b) := by
  cases m with
  | nothing => exact absurd rfl h.2.2.2
  | number x => exact absurd (show (3 : Int) = 1 from h.1) (by decide)
  | text x => exact absurd (show (3 : Int) = 2 from h.1) (by decide)
  | refer x => exact absurd (show (3 : Int) = 4 from h.1) (by decide)
  | row v => exact absurd rfl h.2
  | pair x y =>
    obtain ⟨_, y, z, hl, h1, h2⟩ := h
    cases hl
    rw [of_num h1, of_num h2]

set_option maxRecDepth 100000 in
set_option maxHeartbeats 4000000 in
theorem lives_calls (w : World) : Calls Try.prog 8 #[] w fun e w' => e = .returned (.bool true) ∧ Ex (fun _ => False) w w' := by
  have HX0 := Aside0.mk (Ex.refl (fun _ => False) w)
  go_enter Try.func8, Try.ntmps8
  go_wp2_with fail
  refine (number_calls 1 _).mono ?_
  rintro e w1 ⟨rfl, hx⟩
  have HX1 := Aside0.mk (HX0.out.trans hx (fun _ h => h.elim))
  clear hx
  go_wp2_with fail
  refine (word_calls _ _).mono ?_
  rintro e w2 ⟨rfl, hx⟩
  have HX2 := Aside0.mk (HX1.out.trans hx (fun _ h => h.elim))
  clear hx
  go_wp2_with fail
  refine (compare_unlike (num 1) (txt ⟨#[49]⟩) none none 0 0 _ (fun _ => False) (Kd.F_nil _ _ _) (Kd.F_nil _ _ _) (may_num 1) (may_txt _ (by decide)) (by intro m m2 h1 h2; rw [of_num h1, of_txt h2]; rfl)).mono ?_
  rintro e w3 ⟨rfl, hx⟩
  have HX3 := Aside0.mk (HX2.out.trans hx (fun _ h => h.elim))
  clear hx
  go_wp2_with fail
  refine (number_calls 1 _).mono ?_
  rintro e w4 ⟨rfl, hx⟩
  have HX4 := Aside0.mk (HX3.out.trans hx (fun _ h => h.elim))
  clear hx
  go_wp2_with fail
  refine (number_calls 2 _).mono ?_
  rintro e w5 ⟨rfl, hx⟩
  have HX5 := Aside0.mk (HX4.out.trans hx (fun _ h => h.elim))
  clear hx
  go_wp2_with fail
  refine (list_calls (some ⟨w5.heap.size, 0, none⟩) 2 2 _).mono ?_
  rintro e w6 ⟨rfl, hx⟩
  have HFa := Aside0.mk (ex_F hx (F_pair 1 2 (blk_new1 w5 (.cells #[.int .u8 1, .int .i64 1, .string ⟨#[]⟩, .slice none 0 0, .int .i64 0, .int .u8 1, .int .i64 2, .string ⟨#[]⟩, .slice none 0 0, .int .i64 0] 27))) (fun _ _ h => h))
  have HX6 := Aside0.mk ((HX5.out.alloc _).trans hx (fun _ h => h.elim))
  clear hx
  go_wp2_with fail
  refine (number_calls 1 _).mono ?_
  rintro e w7 ⟨rfl, hx⟩
  have HFa1 := Aside0.mk (ex_F hx HFa.out (fun _ _ h => h))
  have HX7 := Aside0.mk (HX6.out.trans hx (fun _ h => h.elim))
  clear hx
  go_wp2_with fail
  refine (number_calls 2 _).mono ?_
  rintro e w8 ⟨rfl, hx⟩
  have HFa2 := Aside0.mk (ex_F hx HFa1.out (fun _ _ h => h))
  have HX8 := Aside0.mk (HX7.out.trans hx (fun _ h => h.elim))
  clear hx
  go_wp2_with fail
  refine (list_calls (some ⟨w8.heap.size, 0, none⟩) 2 2 _).mono ?_
  rintro e w9 ⟨rfl, hx⟩
  have HFb := Aside0.mk (ex_F hx (F_pair 1 2 (blk_new1 w8 (.cells #[.int .u8 1, .int .i64 1, .string ⟨#[]⟩, .slice none 0 0, .int .i64 0, .int .u8 1, .int .i64 2, .string ⟨#[]⟩, .slice none 0 0, .int .i64 0] 27))) (fun _ _ h => h))
  have HFa3 := Aside0.mk (ex_F hx (Kd.F_alloc HFa2.out _) (fun _ _ h => h))
  have HX9 := Aside0.mk ((HX8.out.alloc _).trans hx (fun _ h => h.elim))
  clear hx
  go_wp2_with fail
  refine (compare_same (lst [num 1, num 2]) (lst [num 1, num 2]) (some ⟨w5.heap.size, 0, none⟩) (some ⟨w8.heap.size, 0, none⟩) 2 2 _ (fun k => k = w5.heap.size ∨ k = w8.heap.size) (Kd.F_mono HFa3.out (fun _ h => .inl h)) (Kd.F_mono HFb.out (fun _ h => .inr h)) (may_two 1 2) (may_two 1 2) (by intro m m2 h1 h2; rw [of_two h1, of_two h2]; rfl)).mono ?_
  rintro e w10 ⟨rfl, hx⟩
  have HX10 := Aside0.mk (HX9.out.trans hx (fun _ h => h.elim))
  clear hx
  go_wp2_with fail
  refine (list_calls none 0 0 _).mono ?_
  rintro e w11 ⟨rfl, hx⟩
  have HX11 := Aside0.mk (HX10.out.trans hx (fun _ h => h.elim))
  clear hx
  go_wp2_with fail
  refine (list_calls none 0 0 _).mono ?_
  rintro e w12 ⟨rfl, hx⟩
  have HX12 := Aside0.mk (HX11.out.trans hx (fun _ h => h.elim))
  clear hx
  go_wp2_with fail
  refine (compare_panic (lst []) (lst []) none none 0 0 _ (fun _ => False) (Kd.F_nil _ _ _) (Kd.F_nil _ _ _) may_nil may_nil (by intro m m2 h1 h2; obtain ⟨v, rfl⟩ := of_nil h1; obtain ⟨u, rfl⟩ := of_nil h2; rfl)).mono ?_
  rintro e w13 ⟨rfl, hx⟩
  have HX13 := Aside0.mk (HX12.out.trans hx (fun _ h => h.elim))
  clear hx
  go_wp2_with fail
  refine (new_calls _).mono ?_
  rintro e w14 ⟨rfl, hw⟩
  have HX14 := Aside0.mk (show Ex (fun _ => False) w w14 by rw [hw]; exact ((HX13.out.alloc _).alloc _).alloc _)
  have HT14 := Aside0.mk (show Tab w14 (w13.heap.size + 2) w13.heap.size (w13.heap.size + 1) (fun b => w13.heap.size ≤ b) [] 0 by rw [hw]; exact tab_new w13)
  clear hw
  go_wp2_with fail
  refine (word_calls _ _).mono ?_
  rintro e w15 ⟨rfl, hx⟩
  have HT15 := Aside0.mk (HT14.out.ex0 hx)
  have HX15 := Aside0.mk (HX14.out.trans hx (fun _ h => h.elim))
  clear hx
  go_wp2_with fail
  refine (number_calls 1 _).mono ?_
  rintro e w16 ⟨rfl, hx⟩
  have HT16 := Aside0.mk (HT15.out.ex0 hx)
  have HX16 := Aside0.mk (HX15.out.trans hx (fun _ h => h.elim))
  clear hx
  go_wp2_with fail
  refine (put_new (txt ⟨#[97]⟩) (num 1) none none 0 0 (w13.heap.size + 2) w13.heap.size (w13.heap.size + 1) _ (fun _ => False) [] 0 _ HT16.out (by omega) (Nat.le_refl _) (Nat.le_refl _) (Kd.F_nil _ _ _) (Kd.F_nil _ _ _) (fun _ h => h.elim) (may_txt _ (by decide)) (may_num 1) (.text ⟨#[97]⟩) (fun _ h => of_txt h) ⟨rfl, Nat.zero_le _⟩ rfl).mono ?_
  rintro e w17 ⟨rfl, hx, r, hr1, hr2, hr3, hr4, hT⟩
  obtain ⟨rm, rk, rv, rA, rca, rB, rcb, rn, rb1, rb2⟩ := r
  dsimp only at hr1 hr2 hr3 hr4
  subst hr1 hr2 hr3 hr4
  have HT17 := Aside0.mk hT
  have HX17 := Aside0.mk (HX16.out.trans hx (fun b hb => .inr (by have := HX13.out.size; rcases hb with rfl | rfl | rfl <;> omega)))
  clear hx hT
  simp only [zval]
  go_wp2_with fail
  refine (word_calls _ _).mono ?_
  rintro e w18 ⟨rfl, hx⟩
  have HT18 := Aside0.mk (HT17.out.ex0 (((Ex.refl _ _).alloc _).trans hx (fun _ h => h.elim)))
  have HX18 := Aside0.mk ((HX17.out.alloc _).trans hx (fun _ h => h.elim))
  clear hx
  go_wp2_with fail
  refine (number_calls 2 _).mono ?_
  rintro e w19 ⟨rfl, hx⟩
  have HT19 := Aside0.mk (HT18.out.ex0 hx)
  have HX19 := Aside0.mk (HX18.out.trans hx (fun _ h => h.elim))
  clear hx
  go_wp2_with fail
  refine (put_old (txt ⟨#[97]⟩) (num 2) none none 0 0 (w13.heap.size + 2) w13.heap.size (w13.heap.size + 1) _ (fun _ => False) _ (0 + 1) _ HT19.out (by omega) (Nat.le_refl _) (Nat.le_refl _) (Kd.F_nil _ _ _) (Kd.F_nil _ _ _) (fun _ h => h.elim) (may_txt _ (by decide)) (may_num 2) (.text ⟨#[97]⟩) (fun _ h => of_txt h) ⟨rfl, Nat.zero_le _⟩ 0 ⟨.text ⟨#[97]⟩, txt ⟨#[97]⟩, num 1, rA, rca, rB, rcb, 0 + 1, rb1, rb2⟩ rfl rfl rfl).mono ?_
  rintro e w20 ⟨rfl, hx, hFo, B2, d2, hT⟩
  have HT20 := Aside0.mk hT
  have HFo20 := Aside0.mk hFo
  have HX20 := Aside0.mk (HX19.out.trans hx (fun b hb => .inr (by have := HX13.out.size; rcases hb with rfl | rfl | rfl <;> omega)))
  clear hx hT hFo
  go_wp2_with fail
  refine (list_calls none 0 0 _).mono ?_
  rintro e w21 ⟨rfl, hx⟩
  have HT21 := Aside0.mk (HT20.out.ex0 (((Ex.refl _ _).alloc _).trans hx (fun _ h => h.elim)))
  have HO21 := Aside0.mk (hx.blk (blk_new1 w20 (.cells #[.int .u8 (num 1).f0, .int .i64 (num 1).f1, .string (num 1).f2, .slice rB (num 1).f3.length rcb, .int .i64 (num 1).f4] 27)) (fun h => h))
  have HX21 := Aside0.mk ((HX20.out.alloc _).trans hx (fun _ h => h.elim))
  clear hx
  go_wp2_with fail
  refine (number_calls 2 _).mono ?_
  rintro e w22 ⟨rfl, hx⟩
  have HT22 := Aside0.mk (HT21.out.ex0 hx)
  have HO22 := Aside0.mk (hx.blk HO21.out (fun h => h))
  have HX22 := Aside0.mk (HX21.out.trans hx (fun _ h => h.elim))
  clear hx
  go_wp2_with fail
  refine (put_key (lst []) (num 2) none none 0 0 (w13.heap.size + 2) w13.heap.size _ _ _ (fun _ => False) HT22.out.hg (Kd.F_nil _ _ _) (Kd.F_nil _ _ _) may_nil (may_num 2) (by intro m h; obtain ⟨v, rfl⟩ := of_nil h; rfl)).mono ?_
  rintro e w23 ⟨rfl, hx⟩
  have HT23 := Aside0.mk (HT22.out.ex0 hx)
  have HO23 := Aside0.mk (hx.blk HO22.out (fun h => h))
  have HX23 := Aside0.mk (HX22.out.trans hx (fun _ h => h.elim))
  have HFo23 := Aside0.mk (Kd.F_mono (ok' := fun _ => True) HFo20.out (fun _ _ => trivial))
  clear hx
  simp only [zval]
  go_wp2_with fail
  have HO := Aside0.mk (blk_alloc HO23.out (.cells #[.int .u8 0, .int .i64 0, .string ⟨#[]⟩, .slice none 0 0, .int .i64 0] 27))
  have HT := Aside0.mk (HT23.out.ex0 ((Ex.refl (fun _ => False) w23).alloc (.cells #[.int .u8 0, .int .i64 0, .string ⟨#[]⟩, .slice none 0 0, .int .i64 0] 27)))
  have HX := Aside0.mk (HX23.out.alloc (.cells #[.int .u8 0, .int .i64 0, .string ⟨#[]⟩, .slice none 0 0, .int .i64 0] 27))
  generalize w23.alloc (.cells #[.int .u8 0, .int .i64 0, .string ⟨#[]⟩, .slice none 0 0, .int .i64 0] 27) = W at HO HT HX ⊢
  have oc0 := (blk_cell HO.out 0).trans rfl
  have oc1 := (blk_cell HO.out 1).trans rfl
  have oc2 := (blk_cell HO.out 2).trans rfl
  have oc3 := (blk_cell HO.out 3).trans rfl
  have oc4 := (blk_cell HO.out 4).trans rfl
  have ol := lt_of_blk HO.out
  refine start_ (n := 52) (S := Any) (ds := [0, 1, 2, 3, 4, 5, 6, 7, 8, 9, 10, 11, 12, 13, 14, 15, 16, 17, 18, 19, 20, 21, 22, 23, 24, 25, 26, 27, 28, 29, 30, 31, 32, 33, 34, 35, 36, 37, 38, 39, 40, 41, 42, 43, 44, 45, 46, 47, 48, 49, 50, 51]) #[false, false, false, false, false, false, false, false, false, false, false, false, false, false, false, false, false, false, false, false, false, false, false, false, false, false, false, false, false, false, false, false, false, false, false, false, false, false, false, false, false, false, false, false, false, false, false, false, false, false, false, false] (by kernel_rfl) (by rfl) (by rfl) trivial (fun _ => ?_)
  refine stepV (i := 0) (N := some 68) #[true, false, false, false, false, false, false, false, false, false, false, false, false, false, false, false, false, false, false, false, false, false, false, false, false, false, false, false, false, false, false, false, false, false, false, false, false, false, false, false, false, false, false, false, false, false, false, false, false, false, false, false] rfl (by kernel_rfl) (by decide) rfl (by rfl) (.int .u8 0) (w1 := W.drew) (by rfl) (by simp only [Act.put, List.setIfInBounds_toArray, List.set_cons_zero, List.set_cons_succ]; rfl) ?_
  refine stepV (i := 1) (N := some 69) #[true, true, false, false, false, false, false, false, false, false, false, false, false, false, false, false, false, false, false, false, false, false, false, false, false, false, false, false, false, false, false, false, false, false, false, false, false, false, false, false, false, false, false, false, false, false, false, false, false, false, false, false] rfl (by kernel_rfl) (by decide) rfl (by rfl) (.bool true) (w1 := W.drew) (by rfl) (by simp only [Act.put, List.setIfInBounds_toArray, List.set_cons_zero, List.set_cons_succ]; rfl) ?_
  refine stepV (i := 2) (N := some 70) #[true, true, true, false, false, false, false, false, false, false, false, false, false, false, false, false, false, false, false, false, false, false, false, false, false, false, false, false, false, false, false, false, false, false, false, false, false, false, false, false, false, false, false, false, false, false, false, false, false, false, false, false] rfl (by kernel_rfl) (by decide) rfl (by rfl) (.bool true) (w1 := W.drew) (by rfl) (by simp only [Act.put, List.setIfInBounds_toArray, List.set_cons_zero, List.set_cons_succ]; rfl) ?_
  refine stepV (i := 3) (N := some 71) #[true, true, true, true, false, false, false, false, false, false, false, false, false, false, false, false, false, false, false, false, false, false, false, false, false, false, false, false, false, false, false, false, false, false, false, false, false, false, false, false, false, false, false, false, false, false, false, false, false, false, false, false] rfl (by kernel_rfl) (by decide) rfl (by rfl) (.int .i64 0) (w1 := W.drew) (by rfl) (by simp only [Act.put, List.setIfInBounds_toArray, List.set_cons_zero, List.set_cons_succ]; rfl) ?_
  refine stepV (i := 4) (N := some 72) #[true, true, true, true, true, false, false, false, false, false, false, false, false, false, false, false, false, false, false, false, false, false, false, false, false, false, false, false, false, false, false, false, false, false, false, false, false, false, false, false, false, false, false, false, false, false, false, false, false, false, false, false] rfl (by kernel_rfl) (by decide) rfl (by rfl) (.bool true) (w1 := W.drew) (by rfl) (by simp only [Act.put, List.setIfInBounds_toArray, List.set_cons_zero, List.set_cons_succ]; rfl) ?_
  refine stepV (i := 5) (N := some 73) #[true, true, true, true, true, true, false, false, false, false, false, false, false, false, false, false, false, false, false, false, false, false, false, false, false, false, false, false, false, false, false, false, false, false, false, false, false, false, false, false, false, false, false, false, false, false, false, false, false, false, false, false] rfl (by kernel_rfl) (by decide) rfl (by rfl) (.bool true) (w1 := W.drew) (by rfl) (by simp only [Act.put, List.setIfInBounds_toArray, List.set_cons_zero, List.set_cons_succ]; rfl) ?_
  refine stepV (i := 6) (N := some 74) #[true, true, true, true, true, true, true, false, false, false, false, false, false, false, false, false, false, false, false, false, false, false, false, false, false, false, false, false, false, false, false, false, false, false, false, false, false, false, false, false, false, false, false, false, false, false, false, false, false, false, false, false] rfl (by kernel_rfl) (by decide) rfl (by rfl) (.bool true) (w1 := W.drew) (by rfl) (by simp only [Act.put, List.setIfInBounds_toArray, List.set_cons_zero, List.set_cons_succ]; rfl) ?_
  refine stepV (i := 7) (N := some 75) #[true, true, true, true, true, true, true, true, false, false, false, false, false, false, false, false, false, false, false, false, false, false, false, false, false, false, false, false, false, false, false, false, false, false, false, false, false, false, false, false, false, false, false, false, false, false, false, false, false, false, false, false] rfl (by kernel_rfl) (by decide) rfl (by rfl) (.int .u8 1) (w1 := W.drew) (by rfl) (by simp only [Act.put, List.setIfInBounds_toArray, List.set_cons_zero, List.set_cons_succ]; rfl) ?_
  refine stepV (i := 8) (N := some 76) #[true, true, true, true, true, true, true, true, true, false, false, false, false, false, false, false, false, false, false, false, false, false, false, false, false, false, false, false, false, false, false, false, false, false, false, false, false, false, false, false, false, false, false, false, false, false, false, false, false, false, false, false] rfl (by kernel_rfl) (by decide) rfl (by rfl) (.bool true) (w1 := W.drew) (by rfl) (by simp only [Act.put, List.setIfInBounds_toArray, List.set_cons_zero, List.set_cons_succ]; rfl) ?_
  refine stepV (i := 9) (N := some 77) #[true, true, true, true, true, true, true, true, true, true, false, false, false, false, false, false, false, false, false, false, false, false, false, false, false, false, false, false, false, false, false, false, false, false, false, false, false, false, false, false, false, false, false, false, false, false, false, false, false, false, false, false] rfl (by kernel_rfl) (by decide) rfl (by rfl) (.bool true) (w1 := W.drew) (by rfl) (by simp only [Act.put, List.setIfInBounds_toArray, List.set_cons_zero, List.set_cons_succ]; rfl) ?_
  refine stepV (i := 10) (N := some 78) #[true, true, true, true, true, true, true, true, true, true, true, false, false, false, false, false, false, false, false, false, false, false, false, false, false, false, false, false, false, false, false, false, false, false, false, false, false, false, false, false, false, false, false, false, false, false, false, false, false, false, false, false] rfl (by kernel_rfl) (by decide) rfl (by rfl) (.bool true) (w1 := W.drew) (by rfl) (by simp only [Act.put, List.setIfInBounds_toArray, List.set_cons_zero, List.set_cons_succ]; rfl) ?_
  refine stepV (i := 11) (N := some 79) #[true, true, true, true, true, true, true, true, true, true, true, true, false, false, false, false, false, false, false, false, false, false, false, false, false, false, false, false, false, false, false, false, false, false, false, false, false, false, false, false, false, false, false, false, false, false, false, false, false, false, false, false] rfl (by kernel_rfl) (by decide) rfl (by rfl) (.int .i64 0) (w1 := W.drew) (by rfl) (by simp only [Act.put, List.setIfInBounds_toArray, List.set_cons_zero, List.set_cons_succ]; rfl) ?_
  refine stepV (i := 12) (N := some 80) #[true, true, true, true, true, true, true, true, true, true, true, true, true, false, false, false, false, false, false, false, false, false, false, false, false, false, false, false, false, false, false, false, false, false, false, false, false, false, false, false, false, false, false, false, false, false, false, false, false, false, false, false] rfl (by kernel_rfl) (by decide) rfl (by rfl) (.bool true) (w1 := W.drew) (by rfl) (by simp only [Act.put, List.setIfInBounds_toArray, List.set_cons_zero, List.set_cons_succ]; rfl) ?_
  refine stepV (i := 13) (N := some 81) #[true, true, true, true, true, true, true, true, true, true, true, true, true, true, false, false, false, false, false, false, false, false, false, false, false, false, false, false, false, false, false, false, false, false, false, false, false, false, false, false, false, false, false, false, false, false, false, false, false, false, false, false] rfl (by kernel_rfl) (by decide) rfl (by rfl) (.bool true) (w1 := W.drew) (by rfl) (by simp only [Act.put, List.setIfInBounds_toArray, List.set_cons_zero, List.set_cons_succ]; rfl) ?_
  refine stepV (i := 14) (N := some 82) #[true, true, true, true, true, true, true, true, true, true, true, true, true, true, true, false, false, false, false, false, false, false, false, false, false, false, false, false, false, false, false, false, false, false, false, false, false, false, false, false, false, false, false, false, false, false, false, false, false, false, false, false] rfl (by kernel_rfl) (by decide) rfl (by rfl) (.bool true) (w1 := W.drew) (by rfl) (by simp only [Act.put, List.setIfInBounds_toArray, List.set_cons_zero, List.set_cons_succ]; rfl) ?_
  refine stepV (i := 15) (N := some 83) #[true, true, true, true, true, true, true, true, true, true, true, true, true, true, true, true, false, false, false, false, false, false, false, false, false, false, false, false, false, false, false, false, false, false, false, false, false, false, false, false, false, false, false, false, false, false, false, false, false, false, false, false] rfl (by kernel_rfl) (by decide) rfl (by rfl) (.int .u8 2) (w1 := W.drew) (by rfl) (by simp only [Act.put, List.setIfInBounds_toArray, List.set_cons_zero, List.set_cons_succ]; rfl) ?_
  refine stepV (i := 16) (N := some 84) #[true, true, true, true, true, true, true, true, true, true, true, true, true, true, true, true, true, false, false, false, false, false, false, false, false, false, false, false, false, false, false, false, false, false, false, false, false, false, false, false, false, false, false, false, false, false, false, false, false, false, false, false] rfl (by kernel_rfl) (by decide) rfl (by rfl) (.bool true) (w1 := W.drew) (by rfl) (by simp only [Act.put, List.setIfInBounds_toArray, List.set_cons_zero, List.set_cons_succ]; rfl) ?_
  refine stepV (i := 17) (N := some 85) #[true, true, true, true, true, true, true, true, true, true, true, true, true, true, true, true, true, true, false, false, false, false, false, false, false, false, false, false, false, false, false, false, false, false, false, false, false, false, false, false, false, false, false, false, false, false, false, false, false, false, false, false] rfl (by kernel_rfl) (by decide) rfl (by rfl) (.bool true) (w1 := W.drew) (by rfl) (by simp only [Act.put, List.setIfInBounds_toArray, List.set_cons_zero, List.set_cons_succ]; rfl) ?_
  refine stepV (i := 18) (N := some 86) #[true, true, true, true, true, true, true, true, true, true, true, true, true, true, true, true, true, true, true, false, false, false, false, false, false, false, false, false, false, false, false, false, false, false, false, false, false, false, false, false, false, false, false, false, false, false, false, false, false, false, false, false] rfl (by kernel_rfl) (by decide) rfl (by rfl) (.bool true) (w1 := W.drew) (by rfl) (by simp only [Act.put, List.setIfInBounds_toArray, List.set_cons_zero, List.set_cons_succ]; rfl) ?_
  refine stepV (i := 19) (N := some 87) #[true, true, true, true, true, true, true, true, true, true, true, true, true, true, true, true, true, true, true, true, false, false, false, false, false, false, false, false, false, false, false, false, false, false, false, false, false, false, false, false, false, false, false, false, false, false, false, false, false, false, false, false] rfl (by kernel_rfl) (by decide) rfl (by rfl) (.int .i64 0) (w1 := W.drew) (by rfl) (by simp only [Act.put, List.setIfInBounds_toArray, List.set_cons_zero, List.set_cons_succ]; rfl) ?_
  refine stepV (i := 20) (N := some 88) #[true, true, true, true, true, true, true, true, true, true, true, true, true, true, true, true, true, true, true, true, true, false, false, false, false, false, false, false, false, false, false, false, false, false, false, false, false, false, false, false, false, false, false, false, false, false, false, false, false, false, false, false] rfl (by kernel_rfl) (by decide) rfl (by rfl) (.bool true) (w1 := W.drew) (by rfl) (by simp only [Act.put, List.setIfInBounds_toArray, List.set_cons_zero, List.set_cons_succ]; rfl) ?_
  refine stepV (i := 21) (N := some 89) #[true, true, true, true, true, true, true, true, true, true, true, true, true, true, true, true, true, true, true, true, true, true, false, false, false, false, false, false, false, false, false, false, false, false, false, false, false, false, false, false, false, false, false, false, false, false, false, false, false, false, false, false] rfl (by kernel_rfl) (by decide) rfl (by rfl) (.bool true) (w1 := W.drew) (by rfl) (by simp only [Act.put, List.setIfInBounds_toArray, List.set_cons_zero, List.set_cons_succ]; rfl) ?_
  refine stepV (i := 22) (N := some 90) #[true, true, true, true, true, true, true, true, true, true, true, true, true, true, true, true, true, true, true, true, true, true, true, false, false, false, false, false, false, false, false, false, false, false, false, false, false, false, false, false, false, false, false, false, false, false, false, false, false, false, false, false] rfl (by kernel_rfl) (by decide) rfl (by rfl) (.bool true) (w1 := W.drew) (by rfl) (by simp only [Act.put, List.setIfInBounds_toArray, List.set_cons_zero, List.set_cons_succ]; rfl) ?_
  refine stepV (i := 23) (N := some 91) #[true, true, true, true, true, true, true, true, true, true, true, true, true, true, true, true, true, true, true, true, true, true, true, true, false, false, false, false, false, false, false, false, false, false, false, false, false, false, false, false, false, false, false, false, false, false, false, false, false, false, false, false] rfl (by kernel_rfl) (by decide) rfl (by rfl) (.bool false) (w1 := W.drew) (by rfl) (by simp only [Act.put, List.setIfInBounds_toArray, List.set_cons_zero, List.set_cons_succ]; rfl) ?_
  refine stepV (i := 24) (N := some 92) #[true, true, true, true, true, true, true, true, true, true, true, true, true, true, true, true, true, true, true, true, true, true, true, true, true, false, false, false, false, false, false, false, false, false, false, false, false, false, false, false, false, false, false, false, false, false, false, false, false, false, false, false] rfl (by kernel_rfl) (by decide) rfl (by rfl) (.bool true) (w1 := W.drew) (by rfl) (by simp only [Act.put, List.setIfInBounds_toArray, List.set_cons_zero, List.set_cons_succ]; rfl) ?_
  refine stepV (i := 25) (N := some 93) #[true, true, true, true, true, true, true, true, true, true, true, true, true, true, true, true, true, true, true, true, true, true, true, true, true, true, false, false, false, false, false, false, false, false, false, false, false, false, false, false, false, false, false, false, false, false, false, false, false, false, false, false] rfl (by kernel_rfl) (by decide) rfl (by rfl) (.bool true) (w1 := W.drew) (by rfl) (by simp only [Act.put, List.setIfInBounds_toArray, List.set_cons_zero, List.set_cons_succ]; rfl) ?_
  refine stepV (i := 26) (N := some 94) #[true, true, true, true, true, true, true, true, true, true, true, true, true, true, true, true, true, true, true, true, true, true, true, true, true, true, true, false, false, false, false, false, false, false, false, false, false, false, false, false, false, false, false, false, false, false, false, false, false, false, false, false] rfl (by kernel_rfl) (by decide) rfl (by rfl) (.bool true) (w1 := W.drew) (by rfl) (by simp only [Act.put, List.setIfInBounds_toArray, List.set_cons_zero, List.set_cons_succ]; rfl) ?_
  refine stepV (i := 27) (N := some 95) #[true, true, true, true, true, true, true, true, true, true, true, true, true, true, true, true, true, true, true, true, true, true, true, true, true, true, true, true, false, false, false, false, false, false, false, false, false, false, false, false, false, false, false, false, false, false, false, false, false, false, false, false] rfl (by kernel_rfl) (by decide) rfl (by rfl) (.int .i64 0) (w1 := W.drew) (by rfl) (by simp only [Act.put, List.setIfInBounds_toArray, List.set_cons_zero, List.set_cons_succ]; rfl) ?_
  refine stepV (i := 28) (N := some 96) #[true, true, true, true, true, true, true, true, true, true, true, true, true, true, true, true, true, true, true, true, true, true, true, true, true, true, true, true, true, false, false, false, false, false, false, false, false, false, false, false, false, false, false, false, false, false, false, false, false, false, false, false] rfl (by kernel_rfl) (by decide) rfl (by rfl) (.bool true) (w1 := W.drew) (by rfl) (by simp only [Act.put, List.setIfInBounds_toArray, List.set_cons_zero, List.set_cons_succ]; rfl) ?_
  refine stepV (i := 29) (N := some 97) #[true, true, true, true, true, true, true, true, true, true, true, true, true, true, true, true, true, true, true, true, true, true, true, true, true, true, true, true, true, true, false, false, false, false, false, false, false, false, false, false, false, false, false, false, false, false, false, false, false, false, false, false] rfl (by kernel_rfl) (by decide) rfl (by rfl) (.bool true) (w1 := W.drew) (by rfl) (by simp only [Act.put, List.setIfInBounds_toArray, List.set_cons_zero, List.set_cons_succ]; rfl) ?_
  refine stepV (i := 30) (N := some 98) #[true, true, true, true, true, true, true, true, true, true, true, true, true, true, true, true, true, true, true, true, true, true, true, true, true, true, true, true, true, true, true, false, false, false, false, false, false, false, false, false, false, false, false, false, false, false, false, false, false, false, false, false] rfl (by kernel_rfl) (by decide) rfl (by rfl) (.bool true) (w1 := W.drew) (by rfl) (by simp only [Act.put, List.setIfInBounds_toArray, List.set_cons_zero, List.set_cons_succ]; rfl) ?_
  refine branchVC (i := 31) (j := 32) (Ni := some 99) (Nj := some 100) #[true, true, true, true, true, true, true, true, true, true, true, true, true, true, true, true, true, true, true, true, true, true, true, true, true, true, true, true, true, true, true, true, false, false, false, false, false, false, false, false, false, false, false, false, false, false, false, false, false, false, false, false] #[true, true, true, true, true, true, true, true, true, true, true, true, true, true, true, true, true, true, true, true, true, true, true, true, true, true, true, true, true, true, true, false, true, false, false, false, false, false, false, false, false, false, false, false, false, false, false, false, false, false, false, false] rfl rfl (by kernel_rfl) (by decide) (by decide) rfl rfl (by rfl) (.agg #[.int .u8 (num 1).f0, .int .i64 (num 1).f1, .string (num 1).f2, .slice rB (num 1).f3.length rcb, .int .i64 (num 1).f4]) (w1 := W.drew) (by go_simp) (by rfl) 27 #[.int .i64 1] (exec_call Try.func27 (by kernel_rfl) rfl _ rfl (by (try simp only [List.map_toArray, List.map_cons, List.map_nil]); first | done | rfl)) (by simp only [Act.put, List.setIfInBounds_toArray, List.set_cons_zero, List.set_cons_succ]; rfl) ?_ ?_
  · refine stepC (i := 32) (N := some 100) #[true, true, true, true, true, true, true, true, true, true, true, true, true, true, true, true, true, true, true, true, true, true, true, true, true, true, true, true, true, true, true, true, true, false, false, false, false, false, false, false, false, false, false, false, false, false, false, false, false, false, false, false] rfl (by kernel_rfl) (by decide) rfl (by rfl) 27 #[.int .i64 1] (exec_call Try.func27 (by kernel_rfl) rfl _ rfl (by (try simp only [List.map_toArray, List.map_cons, List.map_nil]); first | done | rfl)) ?_
    refine (number_calls 1 _).mono ?_
    rintro e w24 ⟨rfl, hx⟩
    refine ⟨_, rfl, ?_⟩
    simp only [Act.put, List.setIfInBounds_toArray, List.set_cons_zero, List.set_cons_succ]
    have HX24 := Aside0.mk (HX.out.drew.trans hx (fun _ h => h.elim))
    have HO24 := Aside0.mk (hx.blk (blk_drew HO.out) (fun h => h))
    have HT24 := Aside0.mk (HT.out.ex0 (((Ex.refl _ _).drew).trans hx (fun _ h => h.elim)))
    clear hx
    refine stepC (i := 33) (N := some 101) #[true, true, true, true, true, true, true, true, true, true, true, true, true, true, true, true, true, true, true, true, true, true, true, true, true, true, true, true, true, true, true, true, true, true, false, false, false, false, false, false, false, false, false, false, false, false, false, false, false, false, false, false] rfl (by kernel_rfl) (by decide) rfl (by rfl) 26 #[.agg #[.int .u8 (num 1).f0, .int .i64 (num 1).f1, .string (num 1).f2, .slice rB (num 1).f3.length rcb, .int .i64 (num 1).f4], .agg #[.int .u8 1, .int .i64 1, .string ⟨#[]⟩, .slice none 0 0, .int .i64 0]] (exec_call Try.func26 (by kernel_rfl) rfl _ rfl (by (try simp only [List.map_toArray, List.map_cons, List.map_nil]); first | done | rfl)) ?_
    refine (posternref04_Same.calls 3 1 1 ⟨#[]⟩ rB rcb [] 0 1 1 ⟨#[]⟩ none 0 [] 0 true _ ⟨rfl, by decide, fun h => absurd h (by decide)⟩ (Nat.zero_le _) (Kd.C_nil _ _) (Nat.le_refl _) (by first | rfl | decide | (simp [posternref04_Same.f, posternref04_Same.j0, posternref04_Same.l0]; done))).mono ?_
    rintro e w25 ⟨rfl, hb⟩
    refine ⟨_, rfl, ?_⟩
    simp only [Act.put, List.setIfInBounds_toArray, List.set_cons_zero, List.set_cons_succ]
    have HX25 := Aside0.mk (HX24.out.then_below hb)
    have HT25 := Aside0.mk (HT24.out.ex0 (Ex.of_below hb))
    clear hb
    refine stepV (i := 34) (N := some 102) #[true, true, true, true, true, true, true, true, true, true, true, true, true, true, true, true, true, true, true, true, true, true, true, true, true, true, true, true, true, true, true, true, true, true, true, false, false, false, false, false, false, false, false, false, false, false, false, false, false, false, false, false] rfl (by kernel_rfl) (by decide) rfl (by rfl) (.bool true) (w1 := w25) (by rfl) (by simp only [Act.put, List.setIfInBounds_toArray, List.set_cons_zero, List.set_cons_succ]; rfl) ?_
    refine stepV (i := 35) (N := some 103) #[true, true, true, true, true, true, true, true, true, true, true, true, true, true, true, true, true, true, true, true, true, true, true, true, true, true, true, true, true, true, true, true, true, true, true, true, false, false, false, false, false, false, false, false, false, false, false, false, false, false, false, false] rfl (by kernel_rfl) (by decide) rfl (by rfl) (.bool true) (w1 := w25) (by rfl) (by simp only [Act.put, List.setIfInBounds_toArray, List.set_cons_zero, List.set_cons_succ]; rfl) ?_
    refine stepV (i := 36) (N := some 104) #[true, true, true, true, true, true, true, true, true, true, true, true, true, true, true, true, true, true, true, true, true, true, true, true, true, true, true, true, true, true, true, true, true, true, true, true, true, false, false, false, false, false, false, false, false, false, false, false, false, false, false, false] rfl (by kernel_rfl) (by decide) rfl (by rfl) (.bool true) (w1 := w25) (by rfl) (by simp only [Act.put, List.setIfInBounds_toArray, List.set_cons_zero, List.set_cons_succ]; rfl) ?_
    refine stepV (i := 37) (N := some 105) #[true, true, true, true, true, true, true, true, true, true, true, true, true, true, true, true, true, true, true, true, true, true, true, true, true, true, true, true, true, true, true, true, true, true, true, true, true, true, false, false, false, false, false, false, false, false, false, false, false, false, false, false] rfl (by kernel_rfl) (by decide) rfl (by rfl) (.bool true) (w1 := w25) (by rfl) (by simp only [Act.put, List.setIfInBounds_toArray, List.set_cons_zero, List.set_cons_succ]; rfl) ?_
    refine stepV (i := 38) (N := some 106) #[true, true, true, true, true, true, true, true, true, true, true, true, true, true, true, true, true, true, true, true, true, true, true, true, true, true, true, true, true, true, true, true, true, true, true, true, true, true, true, false, false, false, false, false, false, false, false, false, false, false, false, false] rfl (by kernel_rfl) (by decide) rfl (by rfl) (.bool true) (w1 := w25) (by rfl) (by simp only [Act.put, List.setIfInBounds_toArray, List.set_cons_zero, List.set_cons_succ]; rfl) ?_
    refine stepV (i := 39) (N := some 107) #[true, true, true, true, true, true, true, true, true, true, true, true, true, true, true, true, true, true, true, true, true, true, true, true, true, true, true, true, true, true, true, true, true, true, true, true, true, true, true, true, false, false, false, false, false, false, false, false, false, false, false, false] rfl (by kernel_rfl) (by decide) rfl (by rfl) (.int .i64 0) (w1 := w25) (by rfl) (by simp only [Act.put, List.setIfInBounds_toArray, List.set_cons_zero, List.set_cons_succ]; rfl) ?_
    refine stepV (i := 40) (N := some 108) #[true, true, true, true, true, true, true, true, true, true, true, true, true, true, true, true, true, true, true, true, true, true, true, true, true, true, true, true, true, true, true, true, true, true, true, true, true, true, true, true, true, false, false, false, false, false, false, false, false, false, false, false] rfl (by kernel_rfl) (by decide) rfl (by rfl) (.bool true) (w1 := w25) (by rfl) (by simp only [Act.put, List.setIfInBounds_toArray, List.set_cons_zero, List.set_cons_succ]; rfl) ?_
    refine stepV (i := 41) (N := some 109) #[true, true, true, true, true, true, true, true, true, true, true, true, true, true, true, true, true, true, true, true, true, true, true, true, true, true, true, true, true, true, true, true, true, true, true, true, true, true, true, true, true, true, false, false, false, false, false, false, false, false, false, false] rfl (by kernel_rfl) (by decide) rfl (by rfl) (.bool true) (w1 := w25) (by rfl) (by simp only [Act.put, List.setIfInBounds_toArray, List.set_cons_zero, List.set_cons_succ]; rfl) ?_
    refine stepV (i := 42) (N := some 110) #[true, true, true, true, true, true, true, true, true, true, true, true, true, true, true, true, true, true, true, true, true, true, true, true, true, true, true, true, true, true, true, true, true, true, true, true, true, true, true, true, true, true, true, false, false, false, false, false, false, false, false, false] rfl (by kernel_rfl) (by decide) rfl (by rfl) (.bool true) (w1 := w25) (by rfl) (by simp only [Act.put, List.setIfInBounds_toArray, List.set_cons_zero, List.set_cons_succ]; rfl) ?_
    refine stepV (i := 43) (N := some 111) #[true, true, true, true, true, true, true, true, true, true, true, true, true, true, true, true, true, true, true, true, true, true, true, true, true, true, true, true, true, true, true, true, true, true, true, true, true, true, true, true, true, true, true, true, false, false, false, false, false, false, false, false] rfl (by kernel_rfl) (by decide) rfl (by rfl) (.int .i64 40) (w1 := w25) (by rfl) (by simp only [Act.put, List.setIfInBounds_toArray, List.set_cons_zero, List.set_cons_succ]; rfl) ?_
    refine stepV (i := 44) (N := some 112) #[true, true, true, true, true, true, true, true, true, true, true, true, true, true, true, true, true, true, true, true, true, true, true, true, true, true, true, true, true, true, true, true, true, true, true, true, true, true, true, true, true, true, true, true, true, false, false, false, false, false, false, false] rfl (by kernel_rfl) (by decide) rfl (by rfl) (.bool true) (w1 := w25) (by rfl) (by simp only [Act.put, List.setIfInBounds_toArray, List.set_cons_zero, List.set_cons_succ]; rfl) ?_
    refine stepV (i := 45) (N := some 113) #[true, true, true, true, true, true, true, true, true, true, true, true, true, true, true, true, true, true, true, true, true, true, true, true, true, true, true, true, true, true, true, true, true, true, true, true, true, true, true, true, true, true, true, true, true, true, false, false, false, false, false, false] rfl (by kernel_rfl) (by decide) rfl (by rfl) (.bool true) (w1 := w25) (by rfl) (by simp only [Act.put, List.setIfInBounds_toArray, List.set_cons_zero, List.set_cons_succ]; rfl) ?_
    refine stepV (i := 46) (N := some 114) #[true, true, true, true, true, true, true, true, true, true, true, true, true, true, true, true, true, true, true, true, true, true, true, true, true, true, true, true, true, true, true, true, true, true, true, true, true, true, true, true, true, true, true, true, true, true, true, false, false, false, false, false] rfl (by kernel_rfl) (by decide) rfl (by rfl) (.bool true) (w1 := w25) (by rfl) (by simp only [Act.put, List.setIfInBounds_toArray, List.set_cons_zero, List.set_cons_succ]; rfl) ?_
    refine stepV (i := 47) (N := some 115) #[true, true, true, true, true, true, true, true, true, true, true, true, true, true, true, true, true, true, true, true, true, true, true, true, true, true, true, true, true, true, true, true, true, true, true, true, true, true, true, true, true, true, true, true, true, true, true, true, false, false, false, false] rfl (by kernel_rfl) (by decide) rfl (by rfl) (.pointer (some ⟨w13.heap.size + 2, 0, none⟩)) (w1 := w25) (by rfl) (by simp only [Act.put, List.setIfInBounds_toArray, List.set_cons_zero, List.set_cons_succ]; rfl) ?_
    refine stepC (i := 48) (N := some 116) #[true, true, true, true, true, true, true, true, true, true, true, true, true, true, true, true, true, true, true, true, true, true, true, true, true, true, true, true, true, true, true, true, true, true, true, true, true, true, true, true, true, true, true, true, true, true, true, true, true, false, false, false] rfl (by kernel_rfl) (by decide) rfl (by rfl) 17 #[.pointer (some ⟨w13.heap.size + 2, 0, none⟩)] (exec_call Try.func17 (by kernel_rfl) rfl _ rfl (by (try simp only [List.map_toArray, List.map_cons, List.map_nil]); first | done | rfl)) ?_
    refine Calls.mono (show Calls Try.prog 17 #[.pointer (some ⟨w13.heap.size + 2, 0, none⟩)] w25 (fun e w' => e = .returned (.int .i64 1) ∧ w' = w25) from len_calls _ _ _ _ _ _ _ HT25.out) ?_
    rintro e w26 ⟨rfl, rfl⟩
    refine ⟨_, rfl, ?_⟩
    simp only [Act.put, List.setIfInBounds_toArray, List.set_cons_zero, List.set_cons_succ]
    refine stepV (i := 49) (N := some 117) #[true, true, true, true, true, true, true, true, true, true, true, true, true, true, true, true, true, true, true, true, true, true, true, true, true, true, true, true, true, true, true, true, true, true, true, true, true, true, true, true, true, true, true, true, true, true, true, true, true, true, false, false] rfl (by kernel_rfl) (by decide) rfl (by rfl) (.bool true) (w1 := w26) (by rfl) (by simp only [Act.put, List.setIfInBounds_toArray, List.set_cons_zero, List.set_cons_succ]; rfl) ?_
    refine stepV (i := 50) (N := some 118) #[true, true, true, true, true, true, true, true, true, true, true, true, true, true, true, true, true, true, true, true, true, true, true, true, true, true, true, true, true, true, true, true, true, true, true, true, true, true, true, true, true, true, true, true, true, true, true, true, true, true, true, false] rfl (by kernel_rfl) (by decide) rfl (by rfl) (.bool true) (w1 := w26) (by rfl) (by simp only [Act.put, List.setIfInBounds_toArray, List.set_cons_zero, List.set_cons_succ]; rfl) ?_
    refine stepV (i := 51) (N := some 0) #[true, true, true, true, true, true, true, true, true, true, true, true, true, true, true, true, true, true, true, true, true, true, true, true, true, true, true, true, true, true, true, true, true, true, true, true, true, true, true, true, true, true, true, true, true, true, true, true, true, true, true, true] rfl (by kernel_rfl) (by decide) rfl (by rfl) (.bool true) (w1 := w26) (by rfl) (by simp only [Act.put, List.setIfInBounds_toArray, List.set_cons_zero, List.set_cons_succ]; rfl) ?_
    refine done_ (by kernel_rfl) ?_
    go_wp2_with fail
    go_ret
    exact ⟨rfl, HX25.out⟩
  · refine (number_calls 1 _).mono ?_
    rintro e w24 ⟨rfl, hx⟩
    refine ⟨_, rfl, ?_⟩
    simp only [Act.put, List.setIfInBounds_toArray, List.set_cons_zero, List.set_cons_succ]
    have HX24 := Aside0.mk (HX.out.drew.trans hx (fun _ h => h.elim))
    have HO24 := Aside0.mk (hx.blk (blk_drew HO.out) (fun h => h))
    have HT24 := Aside0.mk (HT.out.ex0 (((Ex.refl _ _).drew).trans hx (fun _ h => h.elim)))
    clear hx
    have qc0 := (blk_cell HO24.out 0).trans rfl
    have qc1 := (blk_cell HO24.out 1).trans rfl
    have qc2 := (blk_cell HO24.out 2).trans rfl
    have qc3 := (blk_cell HO24.out 3).trans rfl
    have qc4 := (blk_cell HO24.out 4).trans rfl
    have ql := lt_of_blk HO24.out
    refine stepV (i := 31) (N := some 99) #[true, true, true, true, true, true, true, true, true, true, true, true, true, true, true, true, true, true, true, true, true, true, true, true, true, true, true, true, true, true, true, true, true, false, false, false, false, false, false, false, false, false, false, false, false, false, false, false, false, false, false, false] rfl (by kernel_rfl) (by decide) rfl (by rfl) (.agg #[.int .u8 (num 1).f0, .int .i64 (num 1).f1, .string (num 1).f2, .slice rB (num 1).f3.length rcb, .int .i64 (num 1).f4]) (w1 := w24) (by go_simp) (by simp only [Act.put, List.setIfInBounds_toArray, List.set_cons_zero, List.set_cons_succ]; rfl) ?_
    refine stepC (i := 33) (N := some 101) #[true, true, true, true, true, true, true, true, true, true, true, true, true, true, true, true, true, true, true, true, true, true, true, true, true, true, true, true, true, true, true, true, true, true, false, false, false, false, false, false, false, false, false, false, false, false, false, false, false, false, false, false] rfl (by kernel_rfl) (by decide) rfl (by rfl) 26 #[.agg #[.int .u8 (num 1).f0, .int .i64 (num 1).f1, .string (num 1).f2, .slice rB (num 1).f3.length rcb, .int .i64 (num 1).f4], .agg #[.int .u8 1, .int .i64 1, .string ⟨#[]⟩, .slice none 0 0, .int .i64 0]] (exec_call Try.func26 (by kernel_rfl) rfl _ rfl (by (try simp only [List.map_toArray, List.map_cons, List.map_nil]); first | done | rfl)) ?_
    refine (posternref04_Same.calls 3 1 1 ⟨#[]⟩ rB rcb [] 0 1 1 ⟨#[]⟩ none 0 [] 0 true _ ⟨rfl, by decide, fun h => absurd h (by decide)⟩ (Nat.zero_le _) (Kd.C_nil _ _) (Nat.le_refl _) (by first | rfl | decide | (simp [posternref04_Same.f, posternref04_Same.j0, posternref04_Same.l0]; done))).mono ?_
    rintro e w25 ⟨rfl, hb⟩
    refine ⟨_, rfl, ?_⟩
    simp only [Act.put, List.setIfInBounds_toArray, List.set_cons_zero, List.set_cons_succ]
    have HX25 := Aside0.mk (HX24.out.then_below hb)
    have HT25 := Aside0.mk (HT24.out.ex0 (Ex.of_below hb))
    clear hb
    refine stepV (i := 34) (N := some 102) #[true, true, true, true, true, true, true, true, true, true, true, true, true, true, true, true, true, true, true, true, true, true, true, true, true, true, true, true, true, true, true, true, true, true, true, false, false, false, false, false, false, false, false, false, false, false, false, false, false, false, false, false] rfl (by kernel_rfl) (by decide) rfl (by rfl) (.bool true) (w1 := w25) (by rfl) (by simp only [Act.put, List.setIfInBounds_toArray, List.set_cons_zero, List.set_cons_succ]; rfl) ?_
    refine stepV (i := 35) (N := some 103) #[true, true, true, true, true, true, true, true, true, true, true, true, true, true, true, true, true, true, true, true, true, true, true, true, true, true, true, true, true, true, true, true, true, true, true, true, false, false, false, false, false, false, false, false, false, false, false, false, false, false, false, false] rfl (by kernel_rfl) (by decide) rfl (by rfl) (.bool true) (w1 := w25) (by rfl) (by simp only [Act.put, List.setIfInBounds_toArray, List.set_cons_zero, List.set_cons_succ]; rfl) ?_
    refine stepV (i := 36) (N := some 104) #[true, true, true, true, true, true, true, true, true, true, true, true, true, true, true, true, true, true, true, true, true, true, true, true, true, true, true, true, true, true, true, true, true, true, true, true, true, false, false, false, false, false, false, false, false, false, false, false, false, false, false, false] rfl (by kernel_rfl) (by decide) rfl (by rfl) (.bool true) (w1 := w25) (by rfl) (by simp only [Act.put, List.setIfInBounds_toArray, List.set_cons_zero, List.set_cons_succ]; rfl) ?_
    refine stepV (i := 37) (N := some 105) #[true, true, true, true, true, true, true, true, true, true, true, true, true, true, true, true, true, true, true, true, true, true, true, true, true, true, true, true, true, true, true, true, true, true, true, true, true, true, false, false, false, false, false, false, false, false, false, false, false, false, false, false] rfl (by kernel_rfl) (by decide) rfl (by rfl) (.bool true) (w1 := w25) (by rfl) (by simp only [Act.put, List.setIfInBounds_toArray, List.set_cons_zero, List.set_cons_succ]; rfl) ?_
    refine stepV (i := 38) (N := some 106) #[true, true, true, true, true, true, true, true, true, true, true, true, true, true, true, true, true, true, true, true, true, true, true, true, true, true, true, true, true, true, true, true, true, true, true, true, true, true, true, false, false, false, false, false, false, false, false, false, false, false, false, false] rfl (by kernel_rfl) (by decide) rfl (by rfl) (.bool true) (w1 := w25) (by rfl) (by simp only [Act.put, List.setIfInBounds_toArray, List.set_cons_zero, List.set_cons_succ]; rfl) ?_
    refine stepV (i := 39) (N := some 107) #[true, true, true, true, true, true, true, true, true, true, true, true, true, true, true, true, true, true, true, true, true, true, true, true, true, true, true, true, true, true, true, true, true, true, true, true, true, true, true, true, false, false, false, false, false, false, false, false, false, false, false, false] rfl (by kernel_rfl) (by decide) rfl (by rfl) (.int .i64 0) (w1 := w25) (by rfl) (by simp only [Act.put, List.setIfInBounds_toArray, List.set_cons_zero, List.set_cons_succ]; rfl) ?_
    refine stepV (i := 40) (N := some 108) #[true, true, true, true, true, true, true, true, true, true, true, true, true, true, true, true, true, true, true, true, true, true, true, true, true, true, true, true, true, true, true, true, true, true, true, true, true, true, true, true, true, false, false, false, false, false, false, false, false, false, false, false] rfl (by kernel_rfl) (by decide) rfl (by rfl) (.bool true) (w1 := w25) (by rfl) (by simp only [Act.put, List.setIfInBounds_toArray, List.set_cons_zero, List.set_cons_succ]; rfl) ?_
    refine stepV (i := 41) (N := some 109) #[true, true, true, true, true, true, true, true, true, true, true, true, true, true, true, true, true, true, true, true, true, true, true, true, true, true, true, true, true, true, true, true, true, true, true, true, true, true, true, true, true, true, false, false, false, false, false, false, false, false, false, false] rfl (by kernel_rfl) (by decide) rfl (by rfl) (.bool true) (w1 := w25) (by rfl) (by simp only [Act.put, List.setIfInBounds_toArray, List.set_cons_zero, List.set_cons_succ]; rfl) ?_
    refine stepV (i := 42) (N := some 110) #[true, true, true, true, true, true, true, true, true, true, true, true, true, true, true, true, true, true, true, true, true, true, true, true, true, true, true, true, true, true, true, true, true, true, true, true, true, true, true, true, true, true, true, false, false, false, false, false, false, false, false, false] rfl (by kernel_rfl) (by decide) rfl (by rfl) (.bool true) (w1 := w25) (by rfl) (by simp only [Act.put, List.setIfInBounds_toArray, List.set_cons_zero, List.set_cons_succ]; rfl) ?_
    refine stepV (i := 43) (N := some 111) #[true, true, true, true, true, true, true, true, true, true, true, true, true, true, true, true, true, true, true, true, true, true, true, true, true, true, true, true, true, true, true, true, true, true, true, true, true, true, true, true, true, true, true, true, false, false, false, false, false, false, false, false] rfl (by kernel_rfl) (by decide) rfl (by rfl) (.int .i64 40) (w1 := w25) (by rfl) (by simp only [Act.put, List.setIfInBounds_toArray, List.set_cons_zero, List.set_cons_succ]; rfl) ?_
    refine stepV (i := 44) (N := some 112) #[true, true, true, true, true, true, true, true, true, true, true, true, true, true, true, true, true, true, true, true, true, true, true, true, true, true, true, true, true, true, true, true, true, true, true, true, true, true, true, true, true, true, true, true, true, false, false, false, false, false, false, false] rfl (by kernel_rfl) (by decide) rfl (by rfl) (.bool true) (w1 := w25) (by rfl) (by simp only [Act.put, List.setIfInBounds_toArray, List.set_cons_zero, List.set_cons_succ]; rfl) ?_
    refine stepV (i := 45) (N := some 113) #[true, true, true, true, true, true, true, true, true, true, true, true, true, true, true, true, true, true, true, true, true, true, true, true, true, true, true, true, true, true, true, true, true, true, true, true, true, true, true, true, true, true, true, true, true, true, false, false, false, false, false, false] rfl (by kernel_rfl) (by decide) rfl (by rfl) (.bool true) (w1 := w25) (by rfl) (by simp only [Act.put, List.setIfInBounds_toArray, List.set_cons_zero, List.set_cons_succ]; rfl) ?_
    refine stepV (i := 46) (N := some 114) #[true, true, true, true, true, true, true, true, true, true, true, true, true, true, true, true, true, true, true, true, true, true, true, true, true, true, true, true, true, true, true, true, true, true, true, true, true, true, true, true, true, true, true, true, true, true, true, false, false, false, false, false] rfl (by kernel_rfl) (by decide) rfl (by rfl) (.bool true) (w1 := w25) (by rfl) (by simp only [Act.put, List.setIfInBounds_toArray, List.set_cons_zero, List.set_cons_succ]; rfl) ?_
    refine stepV (i := 47) (N := some 115) #[true, true, true, true, true, true, true, true, true, true, true, true, true, true, true, true, true, true, true, true, true, true, true, true, true, true, true, true, true, true, true, true, true, true, true, true, true, true, true, true, true, true, true, true, true, true, true, true, false, false, false, false] rfl (by kernel_rfl) (by decide) rfl (by rfl) (.pointer (some ⟨w13.heap.size + 2, 0, none⟩)) (w1 := w25) (by rfl) (by simp only [Act.put, List.setIfInBounds_toArray, List.set_cons_zero, List.set_cons_succ]; rfl) ?_
    refine stepC (i := 48) (N := some 116) #[true, true, true, true, true, true, true, true, true, true, true, true, true, true, true, true, true, true, true, true, true, true, true, true, true, true, true, true, true, true, true, true, true, true, true, true, true, true, true, true, true, true, true, true, true, true, true, true, true, false, false, false] rfl (by kernel_rfl) (by decide) rfl (by rfl) 17 #[.pointer (some ⟨w13.heap.size + 2, 0, none⟩)] (exec_call Try.func17 (by kernel_rfl) rfl _ rfl (by (try simp only [List.map_toArray, List.map_cons, List.map_nil]); first | done | rfl)) ?_
    refine Calls.mono (show Calls Try.prog 17 #[.pointer (some ⟨w13.heap.size + 2, 0, none⟩)] w25 (fun e w' => e = .returned (.int .i64 1) ∧ w' = w25) from len_calls _ _ _ _ _ _ _ HT25.out) ?_
    rintro e w26 ⟨rfl, rfl⟩
    refine ⟨_, rfl, ?_⟩
    simp only [Act.put, List.setIfInBounds_toArray, List.set_cons_zero, List.set_cons_succ]
    refine stepV (i := 49) (N := some 117) #[true, true, true, true, true, true, true, true, true, true, true, true, true, true, true, true, true, true, true, true, true, true, true, true, true, true, true, true, true, true, true, true, true, true, true, true, true, true, true, true, true, true, true, true, true, true, true, true, true, true, false, false] rfl (by kernel_rfl) (by decide) rfl (by rfl) (.bool true) (w1 := w26) (by rfl) (by simp only [Act.put, List.setIfInBounds_toArray, List.set_cons_zero, List.set_cons_succ]; rfl) ?_
    refine stepV (i := 50) (N := some 118) #[true, true, true, true, true, true, true, true, true, true, true, true, true, true, true, true, true, true, true, true, true, true, true, true, true, true, true, true, true, true, true, true, true, true, true, true, true, true, true, true, true, true, true, true, true, true, true, true, true, true, true, false] rfl (by kernel_rfl) (by decide) rfl (by rfl) (.bool true) (w1 := w26) (by rfl) (by simp only [Act.put, List.setIfInBounds_toArray, List.set_cons_zero, List.set_cons_succ]; rfl) ?_
    refine stepV (i := 51) (N := some 0) #[true, true, true, true, true, true, true, true, true, true, true, true, true, true, true, true, true, true, true, true, true, true, true, true, true, true, true, true, true, true, true, true, true, true, true, true, true, true, true, true, true, true, true, true, true, true, true, true, true, true, true, true] rfl (by kernel_rfl) (by decide) rfl (by rfl) (.bool true) (w1 := w26) (by rfl) (by simp only [Act.put, List.setIfInBounds_toArray, List.set_cons_zero, List.set_cons_succ]; rfl) ?_
    refine done_ (by kernel_rfl) ?_
    go_wp2_with fail
    go_ret
    exact ⟨rfl, HX25.out⟩

end Go.Proofs.Ythkemcekcfccpaa.PBrandCompares
