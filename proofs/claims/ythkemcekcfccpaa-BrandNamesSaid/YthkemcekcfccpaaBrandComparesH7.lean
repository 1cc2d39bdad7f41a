/- 'mark' at every value that May admits. -/
import Derived.Test.YthkemcekcfccpaaBrandComparesH6
namespace Go.Proofs.Ythkemcekcfccpaa.PBrandCompares
open Go.RowKit Go.Proofs.YthkemcekcfccpaaW.PrintWords Go.Proofs.YthkemcekcfccpaaW.PrintLast Go.Proofs.YthkemcekcfccpaaW.PrintMore
open Go.Proofs.Ythkemcekcfccpaa.GBrandCompares
set_option linter.unusedVariables false
set_option linter.unusedSimpArgs false

theorem mark_fit (n : Nat) : ∀ (x : S27) (ok : Nat → Prop) (A : Option Addr) (c : Nat) (w : World), Fit n x → Kd.F k27 w ok A x.f3.length x.f3 → SPEC n x w A c := by
  induction n with
  | zero =>
    intro x ok A c w hf hF
    by_cases h1 : x.f0 = 1
    · exact mark_1 0 x A c w h1
    by_cases h2 : x.f0 = 2
    · exact mark_2 0 x A c w h2
    by_cases h4 : x.f0 = 4
    · exact mark_4 0 x A c w h4
    · exact mark_0 0 x A c w h1 h2 h4 hf
  | succ n ih =>
    intro x ok A c w hf hF
    by_cases h1 : x.f0 = 1
    · exact mark_1 _ x A c w h1
    by_cases h2 : x.f0 = 2
    · exact mark_2 _ x A c w h2
    by_cases h4 : x.f0 = 4
    · exact mark_4 _ x A c w h4
    by_cases h3 : x.f0 = 3
    · obtain ⟨hl, hy⟩ := hf h3
      by_cases h : x.f3.length = 2
      · exact mark_pair n x A c w ok h3 h hF (fun y hm A c w hF => ih y ok A c w (hy y hm) hF)
      · exact mark_row n x A c w ok h3 h hl hF (fun y hm A c w hF => ih y ok A c w (hy y hm) hF)
    · exact mark_0 _ x A c w h1 h2 h4 h3

theorem take_fit (n : Nat) : (∀ x : S27, SizeOf.sizeOf x ≤ n → ∀ p d, 0 ≤ p → p ≤ 512 → 0 ≤ d → (takeV x p d).1 = true → Fit d.toNat x) ∧
    (∀ l : List S27, SizeOf.sizeOf l ≤ n → ∀ p d, 0 ≤ p → p ≤ 512 → 0 ≤ d → (takeL l p d).1 = true → ∀ y ∈ l, Fit d.toNat y) := by
  induction n with
  | zero =>
    refine ⟨fun x hx => ?_, fun l hl => ?_⟩
    · cases x; simp at hx
    · cases l <;> simp at hl
  | succ n ih =>
    refine ⟨fun x hx p d hp hp2 hd ht => ?_, fun l hl p d hp hp2 hd ht => ?_⟩
    · by_cases h3 : x.f0 = 3
      · by_cases hz : p = 0
        · rw [takeV_z hz] at ht; simp at ht
        rw [takeV_3 hz h3] at ht
        split at ht
        · simp at ht
        · rename_i hn
          have hd1 : 1 ≤ d := by omega
          obtain ⟨m, hm⟩ : ∃ m, d.toNat = m + 1 := ⟨d.toNat - 1, by omega⟩
          rw [hm]
          intro _
          refine ⟨by omega, ?_⟩
          have hs : SizeOf.sizeOf x.f3 ≤ n := by cases x; simp at hx ⊢; omega
          have h := ih.2 x.f3 hs (p - 1) (d - 1) (by omega) (by omega) (by omega)
          rw [show (d - 1).toNat = m by omega] at h
          apply h
          generalize takeL x.f3 (p - 1) (d - 1) = t at ht
          obtain ⟨b, p', d'⟩ := t
          cases b
          · simp at ht
          · rfl
      · cases h : d.toNat with
        | zero => exact h3
        | succ m => exact fun h => absurd h h3
    · cases l with
      | nil => simp
      | cons x l =>
        have hx : SizeOf.sizeOf x ≤ n := by simp at hl; omega
        have hl : SizeOf.sizeOf l ≤ n := by simp at hl; omega
        unfold takeL at ht
        have hb := takeV_bounds x hp hd
        have h1 := ih.1 x hx p d hp hp2 hd
        generalize takeV x p d = t at ht hb h1
        obtain ⟨b, p', d'⟩ := t
        cases b
        · simp at ht
        · dsimp only at ht hb h1
          have h5 := hb.2.2.2.2 rfl
          subst h5
          have h2 := ih.2 l hl p' d' hb.1 (by omega) hd ht
          intro y hy
          rcases List.mem_cons.1 hy with rfl | hy
          · exact h1 rfl
          · exact h2 y hy

theorem may_fit {x : S27} (h : mayV x = true) : Fit 16 x := by
  refine (take_fit _).1 x (Nat.le_refl _) 512 16 (by omega) (by omega) (by omega) ?_
  simp only [mayV, measureV, decide_eq_true_eq] at h
  split at h
  · assumption
  · simp at h

/-- mark, at what May admits -/
theorem mark_calls (x : S27) (ok : Nat → Prop) (A : Option Addr) (c : Nat) (w : World) (h : mayV x = true) (hF : Kd.F k27 w ok A x.f3.length x.f3) : SPEC 16 x w A c :=
  mark_fit 16 x ok A c w (may_fit h) hF

set_option maxHeartbeats 400000 in
theorem of_no (x : S27) (A : Option Addr) (c : Nat) (w : World) (ok : Nat → Prop) (hF : Kd.F k27 w ok A x.f3.length x.f3) (hm : mayV x = false) :
    Calls Try.prog 18 #[.agg #[.int .u8 x.f0, .int .i64 x.f1, .string x.f2, .slice A x.f3.length c, .int .i64 x.f4]] w fun e w' => e = .returned (.tuple #[.nilIface, .int .i64 2]) ∧ Ex (fun _ => False) w w' := by
  have HF := Aside0.mk hF
  have HM := Aside0.mk hm
  clear hF hm
  go_enter Try.func18, Try.ntmps18
  go_wp2_with fail
  refine (may_calls x A c _ ok (Kd.F_alloc HF.out _)).mono ?_
  rintro e w1 ⟨rfl, hx1⟩
  have HX1 := Aside0.mk hx1
  clear hx1
  rw [HM.out]
  go_wp2
  go_ret2
  exact ⟨rfl, ((Ex.refl _ _).alloc _).trans HX1.out (fun _ h => h.elim)⟩

set_option maxHeartbeats 400000 in
theorem of_yes (x : S27) (A : Option Addr) (c : Nat) (w : World) (ok : Nat → Prop) (hF : Kd.F k27 w ok A x.f3.length x.f3) (hm : mayV x = true) :
    Calls Try.prog 18 #[.agg #[.int .u8 x.f0, .int .i64 x.f1, .string x.f2, .slice A x.f3.length c, .int .i64 x.f4]] w fun e w' => ∃ m : Mk, MarkOf x m ∧ m.deep ≤ 16 ∧ e = .returned (.tuple #[m.val, .int .i64 0]) ∧ Ex (fun _ => False) w w' := by
  have HF := Aside0.mk hF
  have HM := Aside0.mk hm
  clear hF hm
  go_enter Try.func18, Try.ntmps18
  go_wp2_with fail
  refine (may_calls x A c _ ok (Kd.F_alloc HF.out _)).mono ?_
  rintro e w1 ⟨rfl, hx1⟩
  have HF1 := Aside0.mk (ex_F hx1 (Kd.F_alloc HF.out _) (fun _ _ h => h))
  obtain ⟨hc, hf⟩ := hx1.cells
  have HX1 := Aside0.mk (((Ex.refl (fun _ => False) w).alloc _).trans hx1 (fun _ h => h.elim))
  clear hx1
  have hm' := HM.out
  rw [hm']
  clear hm'
  go_wp2_with fail
  refine (mark_calls x ok A c _ HM.out HF1.out).mono ?_
  rintro e w2 ⟨m, h1, h2, rfl, h4⟩
  have HH := Aside0.mk (And.intro h1 (And.intro h2 (HX1.out.trans h4 (fun _ h => h.elim))))
  clear h1 h2 h4 hc hf
  go_wp2
  go_ret2
  exact ⟨m, HH.out.1, HH.out.2.1, rfl, HH.out.2.2⟩
end Go.Proofs.Ythkemcekcfccpaa.PBrandCompares
