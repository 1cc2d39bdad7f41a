/-
  The row of the law BrandNone: whatever two values it is given, it answers true, and they read as before. No condition.
  Arguments: values that are read as data are values of plain Lean (S27), well formed.
-/
import Derived.Test.YthkemcekcfccpaaBrandComparesR3M5
import Derived.Deep.Slices
import Derived.ChangeMaps5
import Derived.WideShapes
import Derived.Test.YthkemcekcfccpaaRows
import Derived.WalkKit
import Derived.ProofKit
import Derived.OpenShut
import Derived.ShutString
import Derived.ChangeOld
import Derived.Below
import Derived.SizedLaws
import Derived.Carry
namespace Go.Proofs.Ythkemcekcfccpaa.PBrandCompares
open Go.RowKit Go.Proofs.YthkemcekcfccpaaW.PrintWords Go.Proofs.YthkemcekcfccpaaW.PrintLast Go.Proofs.YthkemcekcfccpaaW.PrintMore
open Go.Proofs.Ythkemcekcfccpaa.GBrandCompares
set_option linter.unusedVariables false
set_option linter.unusedSimpArgs false

theorem cells27 : Try.prog.cellsOf 27 = 5 := by kernel_rfl
theorem cells23 : Try.prog.cellsOf 23 = 1 := by kernel_rfl
theorem cells2 : Try.prog.cellsOf 2 = 1 := by kernel_rfl
theorem cells9 : Try.prog.cellsOf 9 = 1 := by kernel_rfl
theorem cells24 : Try.prog.cellsOf 24 = 1 := by kernel_rfl
theorem cells25 : Try.prog.cellsOf 25 = 1 := by kernel_rfl

section
variable {H : Type} {enc : TypeId × Value → H} {w : World} {base : Nat} {spare : Nat → Bool} {held : Bool}

theorem u8_wf {k : Int} (h : (Lit.int .u8 k).wf = true) : 0 ≤ k ∧ k < 256 := by
  simp [Lit.wf] at h
  have h1 : IntKind.u8.min = 0 := by kernel_rfl
  have h2 : IntKind.u8.max = 255 := by kernel_rfl
  omega
theorem five {cs : List Value} (h : cs.length = 5) : ∃ a b c d e, cs = [a, b, c, d, e] := by
  match cs, h with
  | [a, b, c, d, e], _ => exact ⟨a, b, c, d, e, rfl⟩

theorem trod_value (n : Nat) : ∀ (cs : List Value) (x : DataW H × List MemPlace), DataW.trod enc Try.prog w base spare held n 27 cs = some x → ∃ s : S27, k27.K w s cs ∧ Wf s := by
  induction n using Nat.strongRecOn with
  | _ n ih =>
  intro cs x h
  obtain ⟨xs, n1, rfl, _, hl0, hn5, hf⟩ := DataW.trod_struct Try.underlying27 h
  rw [cells27] at hl0
  obtain ⟨v0, v1, v2, v3, v4, rfl⟩ := five hl0
  have g0 : DataW.trod enc Try.prog w base spare held n1 23 (List.take (Try.prog.cellsOf 23) (List.drop 0 [v0, v1, v2, v3, v4])) = xs[0]? := hf 0 _ rfl
  have g1 : DataW.trod enc Try.prog w base spare held n1 2 (List.take (Try.prog.cellsOf 2) (List.drop 1 [v0, v1, v2, v3, v4])) = xs[1]? := hf 1 _ rfl
  have g2 : DataW.trod enc Try.prog w base spare held n1 9 (List.take (Try.prog.cellsOf 9) (List.drop 2 [v0, v1, v2, v3, v4])) = xs[2]? := hf 2 _ rfl
  have g3 : DataW.trod enc Try.prog w base spare held n1 24 (List.take (Try.prog.cellsOf 24) (List.drop 3 [v0, v1, v2, v3, v4])) = xs[3]? := hf 3 _ rfl
  have g4 : DataW.trod enc Try.prog w base spare held n1 25 (List.take (Try.prog.cellsOf 25) (List.drop 4 [v0, v1, v2, v3, v4])) = xs[4]? := hf 4 _ rfl
  have hlen : xs.length = 5 := by rw [hn5]; rfl
  simp only [cells23, cells2, cells9, cells24, cells25, List.drop_zero, List.drop_succ_cons, List.take_succ_cons, List.take_zero] at g0 g1 g2 g3 g4
  rw [List.getElem?_eq_getElem (by omega)] at g0 g1 g2 g3 g4
  obtain ⟨k, e0, _, w0⟩ := DataW.trod_int Try.underlying23 g0
  obtain ⟨a, e1, _, _⟩ := DataW.trod_int Try.underlying2 g1
  obtain ⟨s, e2, _, _⟩ := DataW.trod_string Try.underlying9 g2
  obtain ⟨r, e4, _, _⟩ := DataW.trod_int Try.underlying25 g4
  simp only [List.cons.injEq, and_true] at e0 e1 e2 e4
  subst e0
  subst e1
  subst e2
  subst e4
  have w0' : 0 ≤ k ∧ k < 256 := by
    have := u8_wf w0
    omega
  clear g0 g1 g2 g4
  rcases DataW.trod_slice Try.underlying24 g3 with ⟨e3, _⟩ | ⟨ad, len, cap, elems, rest, n2, hn2, e3, _, hb, hl, hm, hle, hx, _⟩
  · simp only [List.cons.injEq, and_true] at e3
    subst e3
    exact ⟨⟨k, a, s, [], r⟩, k27_mk w ⟨k, a, s, [], r⟩ (A3 := none) (c3 := 0) (Nat.le_refl _) (Kd.C_nil k27 w), .mk w0'.1 w0'.2 (by simp) (by simp)⟩
  · simp only [List.cons.injEq, and_true] at e3
    subst e3
    have hlt : n2 < n1 + 1 := by omega
    have hel : ∀ i, i < len → ∃ s : S27, (∃ cs, cs.length = 5 ∧ k27.K w s cs ∧ ∀ j u, cs[j]? = some u → w.cell? (ad.add (i * 5 + j)) = some u) ∧ Wf s := by
      intro i hi
      have hxi := hx i hi
      rw [List.getElem?_eq_getElem (by omega)] at hxi
      obtain ⟨cs, h1, h2⟩ := Option.bind_eq_some_iff.1 hxi
      rw [cells27] at h1
      obtain ⟨s', hK, hW⟩ := ih n2 hlt cs _ h2
      obtain ⟨_, hl5, hc⟩ := World.cells?_some h1
      refine ⟨s', ⟨cs, hl5, hK, fun j u hj => ?_⟩, hW⟩
      have hj5 : j < 5 := by have := (List.getElem?_eq_some_iff.1 hj).1; omega
      rw [← Go.Deep.add_add, hc j hj5, hj]
    have : Inhabited S27 := ⟨z27⟩
    obtain ⟨S, hS⟩ := Go.Deep.choose_lt hel
    have hlm : len ≤ 9223372036854775807 := by unfold maxLen at hm; omega
    have hlS : ((List.range len).map S).length = len := by simp
    refine ⟨⟨k, a, s, (List.range len).map S, r⟩, ?_, .mk w0'.1 w0'.2 (by rw [hlS]; exact hlm) ?_⟩
    · have hK := k27_mk w ⟨k, a, s, (List.range len).map S, r⟩ (A3 := some ad) (c3 := cap) (by rw [hlS]; exact hl) ?_
      · rw [hlS] at hK; exact hK
      · refine ⟨rfl, by rw [hlS]; exact hlm, fun _ => ⟨ad, rfl, fun j p hj => ?_⟩⟩
        have hj' : j < len := by have := (List.getElem?_eq_some_iff.1 hj).1; simpa using this
        have hp : p = S j := by rw [List.getElem?_map, List.getElem?_range hj'] at hj; exact (Option.some.inj hj).symm
        subst hp
        obtain ⟨⟨cs, h5, hK, hc⟩, _⟩ := hS j hj'
        exact ⟨cs, h5, hK, hc⟩
    · intro y hy
      obtain ⟨i, hi, rfl⟩ := List.mem_map.1 hy
      exact (hS i (List.mem_range.1 hi)).2

set_option maxRecDepth 100000 in
/-- an argument of the values' type -/
theorem open_value {r : Reach} {b0 : Nat} {v : Value} {d : DataW H} {p : List MemPlace} (hv : Value.okWide Try.prog w r b0 27 v) (h : DataW.Trod enc Try.prog w base spare held 27 v d p) :
    ∃ (x : S27) (A : Option Addr) (c : Nat), v = .agg #[.int .u8 x.f0, .int .i64 x.f1, .string x.f2, .slice A x.f3.length c, .int .i64 x.f4] ∧ x.f3.length ≤ c ∧ Kd.C k27 w A x.f3.length x.f3 ∧ Wf x := by
  obtain ⟨⟨cs⟩, rfl, _⟩ := Go.WideShapes.okWide_struct Try.underlying27 hv
  obtain ⟨n, hf⟩ := h
  obtain ⟨x, hK, hW⟩ := trod_value n _ _ hf
  obtain ⟨A, c, hcs, hl, hC⟩ := k27_open hK
  refine ⟨x, A, c, ?_, hl, hC, hW⟩
  have hcs' : cs = [.int .u8 x.f0, .int .i64 x.f1, .string x.f2, .slice A x.f3.length c, .int .i64 x.f4] := hcs
  rw [hcs']

/-- a row of values that is read, as one whose blocks are all that there is -/
theorem heap27 : Kd.Heap k27 := Kd.heap_fix fun d hd => Kd.heap_iso _ (Kd.heap_pair (Kd.heap_int _) (Kd.heap_pair (Kd.heap_int _) (Kd.heap_pair Kd.heap_string (Kd.heap_pair (Kd.heap_slice 27 hd) (Kd.heap_int _)))))
theorem all_F {W : World} {A : Option Addr} {n : Nat} {xs : List S27} (h : Kd.C k27 W A n xs) : Kd.F k27 W (fun k => k < W.heap.size) A n xs := Kd.C_F heap27 h

end

end Go.Proofs.Ythkemcekcfccpaa.PBrandCompares

namespace Go.Proofs.Ythkemcekcfccpaa.brandNone
open Go.ChangeShapes Go.WideShapes Go.ChangeAt Go.RowKit Go.Proofs.Ythkemcekcfccpaa.GBrandCompares
open Go.ChangeMaps (open_string shut_string)
set_option linter.unusedVariables false
theorem own : ownKnob Try.prog.godebug = none := by kernel_rfl
theorem laidOut : laidOutB Try.prog = true := by kernel_rfl
set_option maxRecDepth 100000 in
theorem lifted (os : Os) (started : os.Started) (H : Type) (enc : TypeId × Value → H) :
    ReturnsInHanded {} Try.checked os 7 .any (Rows.brandNoneSpec.pre6 enc Try.prog Try.f7 Rows.brandNoneRow.domain false) (Rows.brandNoneSpec.post enc Try.prog Try.f7 false true false false) := by
  refine returnsInHanded_of_change_sized (C := Try.checked) own started (by kernel_rfl) Try.func7
    (ChangeSpec.witness6 (enc := enc) (C := Try.checked) false ⟨#[], #[.agg #[.int .u8 0, .int .i64 0, .string ByteArray.empty, .slice none 0 0, .int .i64 0], .agg #[.int .u8 0, .int .i64 0, .string ByteArray.empty, .slice none 0 0, .int .i64 0]], []⟩ 8 (by kernel_rfl) (by kernel_rfl) (by kernel_rfl) (by kernel_rfl)) ?_
  intro W base args ds gs before hval0 hW hcnd hsz0 _
  have hval : ∀ (j : Nat) t v, Try.f7.params[j]? = some t → args[j]? = some v → Value.okWide Try.prog W .any base t v := hval0
  have hW' := hW
  obtain ⟨p, q, hA0, hV, rfl, hfz, hnd⟩ := hW
  have hA : DataW.TrodAll enc Try.prog W 0 (fun _ => true) true Try.f7.params.toList args.toList ds p := hA0
  rw [Try.params7] at hA hval
  obtain ⟨v0, vs0, d0, ds0, p0, q0, hargs, rfl, rfl, h0, r0⟩ := trodAll_cons hA
  obtain ⟨v1, vs1, d1, ds1, p1, q1, rfl, rfl, rfl, h1, r1⟩ := trodAll_cons r0
  obtain ⟨rfl, rfl, rfl⟩ := trodAll_nil r1
  obtain rfl : args = #[v0, v1] := by cases args; simp_all
  obtain ⟨rfl, rfl⟩ := trodVars_none hV
  have k0 := h0
  have k1 := h1
  have lt0 : ∀ x ∈ p0, x.block < W.heap.size := by obtain ⟨m, hm⟩ := k0; exact DataW.trod_lt m _ _ _ hm
  have lt1 : ∀ x ∈ p1, x.block < W.heap.size := by obtain ⟨m, hm⟩ := k1; exact DataW.trod_lt m _ _ _ hm
  obtain ⟨x, A, c, rfl, hc, hC, hx⟩ := PBrandCompares.open_value (hval 0 27 v0 rfl rfl) h0
  obtain ⟨y, B, d, rfl, hd, hD, hy⟩ := PBrandCompares.open_value (hval 1 27 v1 rfl rfl) h1
  clear hA0 hval0 hsz0
  refine (PBrandCompares.none_walk x y A B c d W).mono fun e W' ⟨he, hex⟩ => ?_
  have bel : Below W.heap.size W W' := hex.below (Nat.le_refl _) (fun _ h => h.elim)
  subst he
  exact ⟨_, rfl, _, _, _, [], _, [], hW', trodAll_mk1 (shut_bool Try.underlying4 _), trodAll_cons_mk (Below.trod laidOut (by kernel_rfl) (of_decide_eq_true (by kernel_rfl)) k0 bel lt0) (trodAll_cons_mk (Below.trod laidOut (by kernel_rfl) (of_decide_eq_true (by kernel_rfl)) k1 bel lt1) trodAll_mk0), rfl, bel.frame _, fun h => by cases h⟩

set_option maxRecDepth 100000 in
theorem over : Rows.brandNoneRow.holds Try.pinned (OpenSpec.ofChange Rows.brandNoneSpec) :=
  OpenClaim.holds_of_wide 7 Try.f7 rfl rfl rfl rfl rfl rfl rfl ⟨rfl, rfl, rfl, rfl, rfl⟩ rfl rfl rfl rfl rfl (by kernel_rfl) Try.func7 (by kernel_rfl)
    (of_decide_eq_true (by kernel_rfl)) (by unfold Func.isWrapper; first | (rw [if_pos (by decide +kernel)]; kernel_rfl) | (rw [if_neg (by decide +kernel)]; exact ⟨rfl, rfl⟩))
    (fun os started H enc _ => lifted os started H enc)
theorem proved : Rows.BrandNoneSaid := over
end Go.Proofs.Ythkemcekcfccpaa.brandNone
