/-
  The row of the law BrandLists: whatever two lists of values it is given, it answers true, and they read as before. No condition.
  Arguments: rows of values.
-/
import Derived.Test.YthkemcekcfccpaaBrandComparesR4M5
import Derived.RowKitVeiled
import Derived.Test.YthkemcekcfccpaaRows
import Derived.WalkKit
import Derived.ProofKit
import Derived.OpenShut
import Derived.ShutString
import Derived.ChangeOld
import Derived.Below
import Derived.SizedLaws
import Derived.Carry
namespace Go.Proofs.Ythkemcekcfccpaa.PBrandCompares
open Go.RowKit Go.Proofs.YthkemcekcfccpaaW.PrintWords Go.Proofs.YthkemcekcfccpaaW.PrintLast Go.Proofs.YthkemcekcfccpaaW.PrintMore
open Go.Proofs.Ythkemcekcfccpaa.GBrandCompares
set_option linter.unusedVariables false
set_option linter.unusedSimpArgs false

section
variable {H : Type} {enc : TypeId × Value → H} {w : World} {base : Nat} {spare : Nat → Bool} {held : Bool}

theorem trod_values {n : Nat} {v : Value} {x : DataW H × List MemPlace} (h : DataW.trod enc Try.prog w base spare held n 24 [v] = some x) :
    ∃ (K : List S27) (A : Option Addr) (c : Nat), v = .slice A K.length c ∧ K.length ≤ c ∧ Kd.C k27 w A K.length K ∧ ∀ y ∈ K, Wf y := by
  rcases DataW.trod_slice Try.underlying24 h with ⟨e3, _⟩ | ⟨ad, len, cap, elems, rest, n2, hn2, e3, _, hb, hl, hm, hle, hx, _⟩
  · simp only [List.cons.injEq, and_true] at e3
    subst e3
    exact ⟨[], none, 0, rfl, Nat.le_refl _, Kd.C_nil k27 w, by simp⟩
  · simp only [List.cons.injEq, and_true] at e3
    subst e3
    have hel : ∀ i, i < len → ∃ s : S27, (∃ cs, cs.length = 5 ∧ k27.K w s cs ∧ ∀ j u, cs[j]? = some u → w.cell? (ad.add (i * 5 + j)) = some u) ∧ Wf s := by
      intro i hi
      have hxi := hx i hi
      rw [List.getElem?_eq_getElem (by omega)] at hxi
      obtain ⟨cs, h1, h2⟩ := Option.bind_eq_some_iff.1 hxi
      rw [cells27] at h1
      obtain ⟨s', hK, hW⟩ := trod_value n2 cs _ h2
      obtain ⟨_, hl5, hc⟩ := World.cells?_some h1
      refine ⟨s', ⟨cs, hl5, hK, fun j u hj => ?_⟩, hW⟩
      have hj5 : j < 5 := by have := (List.getElem?_eq_some_iff.1 hj).1; omega
      rw [← Go.Deep.add_add, hc j hj5, hj]
    have : Inhabited S27 := ⟨z27⟩
    obtain ⟨S, hS⟩ := Go.Deep.choose_lt hel
    have hlm : len ≤ 9223372036854775807 := by unfold maxLen at hm; omega
    have hlS : ((List.range len).map S).length = len := by simp
    refine ⟨(List.range len).map S, some ad, cap, by rw [hlS], by rw [hlS]; exact hl, ?_, ?_⟩
    · rw [hlS]
      refine ⟨hlS, hlm, fun _ => ⟨ad, rfl, fun j p hj => ?_⟩⟩
      have hj' : j < len := by have := (List.getElem?_eq_some_iff.1 hj).1; simpa using this
      have hp : p = S j := by rw [List.getElem?_map, List.getElem?_range hj'] at hj; exact (Option.some.inj hj).symm
      subst hp
      obtain ⟨⟨cs, h5, hK, hc⟩, _⟩ := hS j hj'
      exact ⟨cs, h5, hK, hc⟩
    · intro y hy
      obtain ⟨i, hi, rfl⟩ := List.mem_map.1 hy
      exact (hS i (List.mem_range.1 hi)).2

set_option maxRecDepth 100000 in
/-- an argument that is a row of values -/
theorem open_values {r : Reach} {b0 : Nat} {v : Value} {d : DataW H} {p : List MemPlace} (hv : Value.okWide Try.prog w r b0 24 v) (h : DataW.Trod enc Try.prog w base spare held 24 v d p) :
    ∃ (K : List S27) (A : Option Addr) (c : Nat), v = .slice A K.length c ∧ K.length ≤ c ∧ Kd.C k27 w A K.length K ∧ ∀ y ∈ K, Wf y := by
  obtain ⟨a, l, c, rfl⟩ : ∃ a l c, v = .slice a l c := by
    simp only [Value.okWide, Try.underlying24, Cell.okWide] at hv
    cases v <;> simp_all [Cell.ok]
  obtain ⟨n, hf⟩ := h
  exact trod_values hf

end
end Go.Proofs.Ythkemcekcfccpaa.PBrandCompares

namespace Go.Proofs.Ythkemcekcfccpaa.brandLists
open Go.ChangeShapes Go.WideShapes Go.ChangeAt Go.RowKit Go.Proofs.Ythkemcekcfccpaa.GBrandCompares
open Go.ChangeMaps (open_string shut_string)
set_option linter.unusedVariables false
theorem own : ownKnob Try.prog.godebug = none := by kernel_rfl
theorem laidOut : laidOutB Try.prog = true := by kernel_rfl
set_option maxRecDepth 100000 in
theorem lifted (os : Os) (started : os.Started) (H : Type) (enc : TypeId × Value → H) :
    ReturnsInHanded {} Try.checked os 5 .any (Rows.brandListsSpec.pre6 enc Try.prog Try.f5 Rows.brandListsRow.domain false) (Rows.brandListsSpec.post enc Try.prog Try.f5 false true false false) := by
  refine returnsInHanded_of_change_sized (C := Try.checked) own started (by kernel_rfl) Try.func5
    (ChangeSpec.witness6 (enc := enc) (C := Try.checked) false ⟨#[], #[.slice none 0 0, .slice none 0 0], []⟩ 8 (by kernel_rfl) (by kernel_rfl) (by kernel_rfl) (by kernel_rfl)) ?_
  intro W base args ds gs before hval0 hW hcnd hsz0 _
  have hval : ∀ (j : Nat) t v, Try.f5.params[j]? = some t → args[j]? = some v → Value.okWide Try.prog W .any base t v := hval0
  have hW' := hW
  obtain ⟨p, q, hA0, hV, rfl, hfz, hnd⟩ := hW
  have hA : DataW.TrodAll enc Try.prog W 0 (fun _ => true) true Try.f5.params.toList args.toList ds p := hA0
  rw [Try.params5] at hA hval
  obtain ⟨v0, vs0, d0, ds0, p0, q0, hargs, rfl, rfl, h0, r0⟩ := trodAll_cons hA
  obtain ⟨v1, vs1, d1, ds1, p1, q1, rfl, rfl, rfl, h1, r1⟩ := trodAll_cons r0
  obtain ⟨rfl, rfl, rfl⟩ := trodAll_nil r1
  obtain rfl : args = #[v0, v1] := by cases args; simp_all
  obtain ⟨rfl, rfl⟩ := trodVars_none hV
  have k0 := h0
  have k1 := h1
  have lt0 : ∀ x ∈ p0, x.block < W.heap.size := by obtain ⟨m, hm⟩ := k0; exact DataW.trod_lt m _ _ _ hm
  have lt1 : ∀ x ∈ p1, x.block < W.heap.size := by obtain ⟨m, hm⟩ := k1; exact DataW.trod_lt m _ _ _ hm
  obtain ⟨K, A, c, rfl, hc, hC, hK⟩ := PBrandCompares.open_values (hval 0 24 v0 rfl rfl) h0
  obtain ⟨V, B, d, rfl, hd, hD, hV⟩ := PBrandCompares.open_values (hval 1 24 v1 rfl rfl) h1
  clear hA0 hval0 hsz0
  refine (PBrandCompares.lists_walk K V A B c d W (PBrandCompares.all_F hC) (PBrandCompares.all_F hD) hK hV).mono fun e W' ⟨he, hex⟩ => ?_
  have bel : Below W.heap.size W W' := hex.below (Nat.le_refl _) (fun _ h => h.elim)
  subst he
  exact ⟨_, rfl, _, _, _, [], _, [], hW', trodAll_mk1 (shut_bool Try.underlying4 _), trodAll_cons_mk (Below.trod laidOut (by kernel_rfl) (of_decide_eq_true (by kernel_rfl)) k0 bel lt0) (trodAll_cons_mk (Below.trod laidOut (by kernel_rfl) (of_decide_eq_true (by kernel_rfl)) k1 bel lt1) trodAll_mk0), rfl, bel.frame _, fun h => by cases h⟩
theorem over : Rows.brandListsRow.holds Try.pinned (OpenSpec.ofChange Rows.brandListsSpec) :=
  OpenClaim.holds_of_wide 5 Try.f5 rfl rfl rfl rfl rfl rfl rfl ⟨rfl, rfl, rfl, rfl, rfl⟩ rfl rfl rfl rfl rfl (by kernel_rfl) Try.func5 (by kernel_rfl)
    (of_decide_eq_true (by kernel_rfl)) (by unfold Func.isWrapper; first | (rw [if_pos (by decide +kernel)]; kernel_rfl) | (rw [if_neg (by decide +kernel)]; exact ⟨rfl, rfl⟩))
    (fun os started H enc _ => lifted os started H enc)
theorem proved : Rows.BrandListsSaid := over
end Go.Proofs.Ythkemcekcfccpaa.brandLists
