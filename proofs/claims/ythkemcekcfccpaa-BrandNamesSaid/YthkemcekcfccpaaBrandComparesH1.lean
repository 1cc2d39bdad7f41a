/- What a value takes up, as a plain function (takeV), and that the Go method 'take' of package value, with 'measure' and 'May' over it, comes to just that. -/
import Derived.Test.YthkemcekcfccpaaPBrandComparesx0
namespace Go.Proofs.Ythkemcekcfccpaa.PBrandCompares
open Go.RowKit Go.Proofs.YthkemcekcfccpaaW.PrintWords Go.Proofs.YthkemcekcfccpaaW.PrintLast Go.Proofs.YthkemcekcfccpaaW.PrintMore
set_option linter.unusedVariables false
set_option linter.unusedSimpArgs false

mutual
def takeV : S27 → Int → Int → Bool × Int × Int
  | ⟨k, n, s, l, r⟩, p, d =>
    if p = 0 then (false, p, d)
    else if k = 0 then (decide (n = 0 ∧ s.size = 0 ∧ r = 0 ∧ l.length = 0), p - 1, d)
    else if k = 1 then (decide (s.size = 0 ∧ r = 0 ∧ l.length = 0), p - 1, d)
    else if k = 2 then (if 256 < s.size then (false, p - 1, d) else (decide (n = 0 ∧ r = 0 ∧ l.length = 0), p - 1, d))
    else if k = 4 then (if r < 1 then (false, p - 1, d) else (decide (n = 0 ∧ s.size = 0 ∧ l.length = 0), p - 1, d))
    else if k = 3 then
      (if d = 0 ∨ p - 1 < (l.length : Int) then (false, p - 1, d) else
        match takeL l (p - 1) (d - 1) with
        | (false, p', d') => (false, p', d')
        | (true, p', d') => (decide (n = 0 ∧ s.size = 0 ∧ r = 0), p', d' + 1))
    else (false, p - 1, d)
def takeL : List S27 → Int → Int → Bool × Int × Int
  | [], p, d => (true, p, d)
  | x :: l, p, d =>
    match takeV x p d with
    | (false, p', d') => (false, p', d')
    | (true, p', d') => takeL l p' d'
end

def measureV (x : S27) : Int := if (takeV x 512 16).1 then 512 - (takeV x 512 16).2.1 else 0
def mayV (x : S27) : Bool := decide (0 < measureV x)

theorem rd_mem {xs : List S27} {i : Nat} (h : i < xs.length) : rd_T27 xs (i : Int) ∈ xs := by
  unfold rd_T27
  rw [Int.toNat_natCast, List.getD_eq_getElem?_getD, List.getElem?_eq_getElem h]
  exact List.getElem_mem h
theorem rd_drop {xs : List S27} {i : Nat} (h : i < xs.length) : xs.drop i = rd_T27 xs (i : Int) :: xs.drop (i + 1) := by
  unfold rd_T27
  rw [Int.toNat_natCast, List.getD_eq_getElem?_getD, List.getElem?_eq_getElem h]
  exact List.drop_eq_getElem_cons h
theorem rd_size {x : S27} {i : Nat} (h : i < x.f3.length) : SizeOf.sizeOf (rd_T27 x.f3 (i : Int)) < SizeOf.sizeOf x := by
  have h1 := List.sizeOf_lt_of_mem (rd_mem h)
  cases x
  simp at h1 ⊢
  omega

/-- the bounds stay -/
theorem take_bounds (n : Nat) : (∀ x : S27, SizeOf.sizeOf x ≤ n → ∀ p d, 0 ≤ p → 0 ≤ d → 0 ≤ (takeV x p d).2.1 ∧ (takeV x p d).2.1 ≤ p ∧ 0 ≤ (takeV x p d).2.2 ∧ (takeV x p d).2.2 ≤ d ∧ ((takeV x p d).1 = true → (takeV x p d).2.2 = d)) ∧
    (∀ l : List S27, SizeOf.sizeOf l ≤ n → ∀ p d, 0 ≤ p → 0 ≤ d → 0 ≤ (takeL l p d).2.1 ∧ (takeL l p d).2.1 ≤ p ∧ 0 ≤ (takeL l p d).2.2 ∧ (takeL l p d).2.2 ≤ d ∧ ((takeL l p d).1 = true → (takeL l p d).2.2 = d)) := by
  induction n with
  | zero =>
    refine ⟨fun x hx => ?_, fun l hl => ?_⟩
    · cases x; simp at hx
    · cases l <;> simp at hl
  | succ n ih =>
    refine ⟨fun x hx p d hp hd => ?_, fun l hl p d hp hd => ?_⟩
    · obtain ⟨k, m, s, l, r⟩ := x
      have hl : SizeOf.sizeOf l ≤ n := by simp at hx; omega
      unfold takeV
      have hs : ∀ (b : Bool) (q : Int), 0 ≤ q → q ≤ p → 0 ≤ ((b, q, d) : Bool × Int × Int).2.1 ∧ ((b, q, d) : Bool × Int × Int).2.1 ≤ p ∧ 0 ≤ ((b, q, d) : Bool × Int × Int).2.2 ∧ ((b, q, d) : Bool × Int × Int).2.2 ≤ d ∧ (((b, q, d) : Bool × Int × Int).1 = true → ((b, q, d) : Bool × Int × Int).2.2 = d) :=
        fun b q h1 h2 => ⟨h1, h2, hd, Int.le_refl _, fun _ => rfl⟩
      split
      · exact hs _ _ hp (Int.le_refl _)
      split
      · exact hs _ _ (by omega) (by omega)
      split
      · exact hs _ _ (by omega) (by omega)
      split
      · split <;> exact hs _ _ (by omega) (by omega)
      split
      · split <;> exact hs _ _ (by omega) (by omega)
      split
      · split
        · exact hs _ _ (by omega) (by omega)
        · rename_i h1
          have hd1 : 0 ≤ d - 1 := by omega
          have hb := ih.2 l hl (p - 1) (d - 1) (by omega) hd1
          generalize takeL l (p - 1) (d - 1) = t at hb
          obtain ⟨b, p', d'⟩ := t
          dsimp only at hb
          cases b
          · exact ⟨hb.1, by have := hb.2.1; dsimp only; omega, hb.2.2.1, by have := hb.2.2.2.1; dsimp only; omega, fun h => by simp at h⟩
          · have h5 := hb.2.2.2.2 rfl
            have h2 := hb.2.1
            refine ⟨hb.1, by dsimp only; omega, by dsimp only; omega, by dsimp only; omega, fun h => by dsimp only; omega⟩
      · exact hs _ _ (by omega) (by omega)
    · cases l with
      | nil => simp [takeL]; omega
      | cons x l =>
        have hx : SizeOf.sizeOf x ≤ n := by simp at hl; omega
        have hl : SizeOf.sizeOf l ≤ n := by simp at hl; omega
        unfold takeL
        have hb := ih.1 x hx p d hp hd
        generalize takeV x p d = t at hb
        obtain ⟨b, p', d'⟩ := t
        dsimp only at hb
        cases b
        · exact ⟨hb.1, hb.2.1, hb.2.2.1, hb.2.2.2.1, fun h => by simp at h⟩
        · have h5 := hb.2.2.2.2 rfl
          have hc := ih.2 l hl p' d' hb.1 hb.2.2.1
          exact ⟨hc.1, by have := hc.2.1; dsimp only; omega, hc.2.2.1, by have := hc.2.2.2.1; dsimp only; omega, fun h => by have := hc.2.2.2.2 h; dsimp only; omega⟩

theorem takeV_bounds (x : S27) {p d : Int} (hp : 0 ≤ p) (hd : 0 ≤ d) : 0 ≤ (takeV x p d).2.1 ∧ (takeV x p d).2.1 ≤ p ∧ 0 ≤ (takeV x p d).2.2 ∧ (takeV x p d).2.2 ≤ d ∧ ((takeV x p d).1 = true → (takeV x p d).2.2 = d) :=
  (take_bounds (SizeOf.sizeOf x)).1 x (Nat.le_refl _) p d hp hd
theorem takeL_bounds (l : List S27) {p d : Int} (hp : 0 ≤ p) (hd : 0 ≤ d) : 0 ≤ (takeL l p d).2.1 ∧ (takeL l p d).2.1 ≤ p ∧ 0 ≤ (takeL l p d).2.2 ∧ (takeL l p d).2.2 ≤ d ∧ ((takeL l p d).1 = true → (takeL l p d).2.2 = d) :=
  (take_bounds (SizeOf.sizeOf l)).2 l (Nat.le_refl _) p d hp hd

end Go.Proofs.Ythkemcekcfccpaa.PBrandCompares
