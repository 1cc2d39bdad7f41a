/- 'own' of package value, as a plain function: it comes to the same value wherever May admits it. -/
import Derived.Test.YthkemcekcfccpaaBrandComparesV1
import Derived.Test.YthkemcekcfccpaaBrandComparesH7
namespace Go.Proofs.Ythkemcekcfccpaa.PBrandCompares
open Go.RowKit Go.Proofs.YthkemcekcfccpaaW.PrintWords Go.Proofs.YthkemcekcfccpaaW.PrintLast Go.Proofs.YthkemcekcfccpaaW.PrintMore
open Go.Proofs.Ythkemcekcfccpaa.GBrandCompares
set_option linter.unusedVariables false
set_option linter.unusedSimpArgs false

/-- nested at most so deep, and no list longer than 511, whatever the kinds -/
def Small : Nat → S27 → Prop
  | 0, x => x.f3 = []
  | n + 1, x => x.f3.length ≤ 511 ∧ ∀ y ∈ x.f3, Small n y

theorem small_nil {x : S27} (h : x.f3 = []) (n : Nat) : Small n x := by
  cases n with
  | zero => exact h
  | succ n => simp [Small, h]

theorem take_small (n : Nat) : (∀ x : S27, SizeOf.sizeOf x ≤ n → ∀ p d, 0 ≤ p → p ≤ 512 → 0 ≤ d → (takeV x p d).1 = true → Small d.toNat x) ∧
    (∀ l : List S27, SizeOf.sizeOf l ≤ n → ∀ p d, 0 ≤ p → p ≤ 512 → 0 ≤ d → (takeL l p d).1 = true → ∀ y ∈ l, Small d.toNat y) := by
  induction n with
  | zero =>
    refine ⟨fun x hx => ?_, fun l hl => ?_⟩
    · cases x; simp at hx
    · cases l <;> simp at hl
  | succ n ih =>
    refine ⟨fun x hx p d hp hp2 hd ht => ?_, fun l hl p d hp hp2 hd ht => ?_⟩
    · by_cases hz : p = 0
      · rw [takeV_z hz] at ht; simp at ht
      by_cases h3 : x.f0 = 3
      · rw [takeV_3 hz h3] at ht
        split at ht
        · simp at ht
        · rename_i hn
          have hd1 : 1 ≤ d := by omega
          obtain ⟨m, hm⟩ : ∃ m, d.toNat = m + 1 := ⟨d.toNat - 1, by omega⟩
          rw [hm]
          refine ⟨by omega, ?_⟩
          have hs : SizeOf.sizeOf x.f3 ≤ n := by cases x; simp at hx ⊢; omega
          have h := ih.2 x.f3 hs (p - 1) (d - 1) (by omega) (by omega) (by omega)
          rw [show (d - 1).toNat = m by omega] at h
          apply h
          generalize takeL x.f3 (p - 1) (d - 1) = t at ht
          obtain ⟨b, p', d'⟩ := t
          cases b
          · simp at ht
          · rfl
      · have hnil : x.f3 = [] := by
          by_cases h0 : x.f0 = 0
          · rw [takeV_0 hz h0] at ht; simp at ht; exact ht.2.2.2
          by_cases h1 : x.f0 = 1
          · rw [takeV_1 hz h1] at ht; simp at ht; exact ht.2.2
          by_cases h2 : x.f0 = 2
          · rw [takeV_2 hz h2] at ht
            split at ht
            · simp at ht
            · simp at ht; exact ht.2.2
          by_cases h4 : x.f0 = 4
          · rw [takeV_4 hz h4] at ht
            split at ht
            · simp at ht
            · simp at ht; exact ht.2.2
          rw [takeV_5 hz h0 h1 h2 h4 h3] at ht; simp at ht
        exact small_nil hnil _
    · cases l with
      | nil => simp
      | cons x l =>
        have hx : SizeOf.sizeOf x ≤ n := by simp at hl; omega
        have hl : SizeOf.sizeOf l ≤ n := by simp at hl; omega
        unfold takeL at ht
        have hb := takeV_bounds x hp hd
        have h1 := ih.1 x hx p d hp hp2 hd
        generalize takeV x p d = t at ht hb h1
        obtain ⟨b, p', d'⟩ := t
        cases b
        · simp at ht
        · dsimp only at ht hb h1
          have h5 := hb.2.2.2.2 rfl
          subst h5
          have h2 := ih.2 l hl p' d' hb.1 (by omega) hd ht
          intro y hy
          rcases List.mem_cons.1 hy with rfl | hy
          · exact h1 rfl
          · exact h2 y hy

theorem may_small {x : S27} (h : mayV x = true) : Small 16 x := by
  refine (take_small _).1 x (Nat.le_refl _) 512 16 (by omega) (by omega) (by omega) ?_
  simp only [mayV, measureV, decide_eq_true_eq] at h
  split at h
  · assumption
  · simp at h

theorem le_own {j k : Nat} (h : j ≤ k) {x : S27} {r : Int × Int × ByteArray × List S27 × Int} (hr : value_own.f j x.f0 x.f1 x.f2 x.f3 x.f4 = some r) : value_own.f k x.f0 x.f1 x.f2 x.f3 x.f4 = some r := by
  induction h with
  | refl => exact hr
  | step _ ih => exact value_own.mono _ _ _ _ _ _ _ ih

/-- the loop, from element i on -/
theorem own_loop (xs : List S27) (hlen : xs.length ≤ 511) (a b : Int) (s : ByteArray) (r : Int) (l0 : List S27) (K : Nat) (hK : ∀ y ∈ xs, value_own.f K y.f0 y.f1 y.f2 y.f3 y.f4 = some (y.f0, y.f1, y.f2, y.f3, y.f4)) :
    ∀ (m i : Nat) (ys : List S27), i + m = xs.length → ys.length = xs.length → ys.take i = xs.take i →
      value_own.l0 (K + m + 1) ys xs (xs.length : Int) (i : Int) a b s l0 r = some (a, b, s, xs, r) := by
  intro m
  induction m with
  | zero =>
    intro i ys hi hy ht
    unfold value_own.l0
    rw [if_neg (by omega)]
    have : ys = xs := by
      have h1 : ys.take i = ys := List.take_of_length_le (by omega)
      have h2 : xs.take i = xs := List.take_of_length_le (by omega)
      rw [← h1, ht, h2]
    rw [this]
  | succ m ih =>
    intro i ys hi hy ht
    have hlt : i < xs.length := by omega
    rw [show K + (m + 1) + 1 = (K + m + 1) + 1 by omega]
    unfold value_own.l0
    rw [if_pos (by omega), if_pos (by omega), if_pos (by omega)]
    have hm := rd_mem (xs := xs) (i := i) hlt
    rw [le_own (x := rd_T27 xs (i : Int)) (show K ≤ K + m + 1 by omega) (hK _ hm)]
    simp only [Option.bind_some]
    rw [if_pos (by omega)]
    rw [show wrap64 ((i : Int) + 1) = ((i + 1 : Nat) : Int) by simp only [wrap64]; omega]
    refine ih (i + 1) _ (by omega) (by simpa using hy) ?_
    rw [Int.toNat_natCast]
    apply List.ext_getElem?
    intro j
    rw [List.getElem?_take, List.getElem?_take]
    by_cases hj : j < i + 1
    · rw [if_pos hj, if_pos hj]
      by_cases hji : i = j
      · subst hji
        rw [List.getElem?_set_self (by omega)]
        unfold rd_T27
        rw [Int.toNat_natCast, List.getD_eq_getElem?_getD, List.getElem?_eq_getElem hlt, Option.getD_some]
        generalize xs[i] = q
        cases q
        rfl
      · rw [List.getElem?_set_ne hji]
        have := congrArg (fun l => l[j]?) ht
        simp only [List.getElem?_take] at this
        rw [if_pos (by omega), if_pos (by omega)] at this
        exact this
    · rw [if_neg hj, if_neg hj]

theorem own_pure (n : Nat) : ∃ K, ∀ x : S27, Small n x → value_own.f K x.f0 x.f1 x.f2 x.f3 x.f4 = some (x.f0, x.f1, x.f2, x.f3, x.f4) := by
  induction n with
  | zero =>
    refine ⟨1, fun x hx => ?_⟩
    simp only [Small] at hx
    unfold value_own.f
    rw [hx]
    rfl
  | succ n ih =>
    obtain ⟨K, hK⟩ := ih
    refine ⟨K + 511 + 2, fun x hx => ?_⟩
    obtain ⟨hl, hy⟩ := hx
    unfold value_own.f
    split
    · rename_i h0
      rw [show x.f3 = [] from List.length_eq_zero_iff.1 (by omega)]
    · rw [if_pos (by omega), if_pos (by omega)]
      have h := own_loop x.f3 hl x.f0 x.f1 x.f2 x.f4 x.f3 (K + (511 - x.f3.length)) (fun y hm => le_own (by omega) (hK y (hy y hm))) x.f3.length 0 (List.replicate ((x.f3.length : Int)).toNat z27) (by omega) (by simp) (by simp)
      rw [show K + 511 + 1 = K + (511 - x.f3.length) + x.f3.length + 1 by omega]
      exact h

end Go.Proofs.Ythkemcekcfccpaa.PBrandCompares
