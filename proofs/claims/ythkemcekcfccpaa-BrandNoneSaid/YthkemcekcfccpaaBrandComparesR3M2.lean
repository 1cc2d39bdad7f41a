/-
  'Own' of package value, 'own' of package brand: at a value that May admits, the same in memory of its own.
  Tables of package brand: what a table's memory says (Tab), and Put.
  Put of a table: where it answers an error.
  Tables of package brand that are not there (nil), or that no call made: every method's answer.
  A range over a function that yields nothing: the law; a function that holds such ranges.
  Tables: one row more; one row's value turned.
  Put of a table, at a mark that it has.
  Put of a table, at a mark that is new to it.
  The values that the laws make: a number, a text, a list.
-/
import Derived.Test.YthkemcekcfccpaaBrandComparesR3M1
import Derived.Deep.RegionLaw
import Derived.RangeFuncNested
import Derived.RangeFuncBound
import Derived.RangeFuncCalls
import Derived.RangeFuncLeaves
import Derived.RangeFuncWrites
import Derived.ControlIn
namespace Go.Proofs.Ythkemcekcfccpaa.PBrandCompares
open Go.RowKit Go.Proofs.YthkemcekcfccpaaW.PrintWords Go.Proofs.YthkemcekcfccpaaW.PrintLast Go.Proofs.YthkemcekcfccpaaW.PrintMore
open Go.Proofs.Ythkemcekcfccpaa.GBrandCompares
set_option linter.unusedVariables false
set_option linter.unusedSimpArgs false

theorem size27 : (Try.prog.info? 27).map (·.size) = some 5 := by kernel_rfl
/-- a value's own struct written over, field by field -/
theorem put27 {w : World} {g : Nat} {cs : Array Value} (h : w.heap[g]? = some (.cells cs 27 (0, 0))) (hs : cs.size = 5) (a b c d e : Value) :
    (((((w.setCell ⟨g, 0, none⟩ a).setCell ⟨g, 1, none⟩ b).setCell ⟨g, 2, none⟩ c).setCell ⟨g, 3, none⟩ d).setCell ⟨g, 4, none⟩ e).heap[g]? = some (.cells #[a, b, c, d, e] 27 (0, 0)) := by
  obtain ⟨l⟩ := cs
  match l, hs with
  | [_, _, _, _, _], _ => exact blk_put (blk_put (blk_put (blk_put (blk_put h 0 _ rfl) 1 _ rfl) 2 _ rfl) 3 _ rfl) 4 _ rfl
theorem ex_put27 {S : Nat → Prop} {w0 w : World} {g : Nat} (h : Ex S w0 w) (hg : S g ∨ w0.heap.size ≤ g) (a b c d e : Value) :
    Ex S w0 (((((w.setCell ⟨g, 0, none⟩ a).setCell ⟨g, 1, none⟩ b).setCell ⟨g, 2, none⟩ c).setCell ⟨g, 3, none⟩ d).setCell ⟨g, 4, none⟩ e) :=
  ((((h.set (p := ⟨g, 0, none⟩) hg a).set (p := ⟨g, 1, none⟩) hg b).set (p := ⟨g, 2, none⟩) hg c).set (p := ⟨g, 3, none⟩) hg d).set (p := ⟨g, 4, none⟩) hg e

/-- what such a call answers: the value, of memory of its own -/
def Owned (x : S27) (w : World) (v : Value) (w' : World) : Prop :=
  ∃ (A : Option Addr) (c : Nat), v = .agg #[.int .u8 x.f0, .int .i64 x.f1, .string x.f2, .slice A x.f3.length c, .int .i64 x.f4] ∧ x.f3.length ≤ c ∧ Kd.R k27 27 w' w.heap.size (fun k => w.heap.size ≤ k) (.slice A x.f3.length c) x.f3 ∧ Ex (fun _ => False) w w'

theorem vown_calls (x : S27) (A : Option Addr) (c : Nat) (w : World) (ok : Nat → Prop) (hc : x.f3.length ≤ c) (hF : Kd.F k27 w ok A x.f3.length x.f3) (hm : mayV x = true) :
    Calls Try.prog 56 #[.agg #[.int .u8 x.f0, .int .i64 x.f1, .string x.f2, .slice A x.f3.length c, .int .i64 x.f4]] w fun e w' => ∃ v, e = .returned v ∧ Owned x w v w' := by
  obtain ⟨K, hK⟩ := own_pure 16
  refine (value_own.calls K x.f0 x.f1 x.f2 ok A c x.f3 x.f4 _ _ _ _ _ w (Kd.V_mk hc hF) (hK x (may_small hm))).mono ?_
  rintro e w1 ⟨v3, rfl, hR, hB⟩
  obtain ⟨A3, c3, rfl, l3, _⟩ := Kd.R_reads hR
  exact ⟨_, rfl, A3, c3, rfl, l3, hR, Ex.of_below hB⟩

set_option maxHeartbeats 400000 in
/-- value.Own -/
theorem Own_calls (x : S27) (A : Option Addr) (c : Nat) (w : World) (ok : Nat → Prop) (hc : x.f3.length ≤ c) (hF : Kd.F k27 w ok A x.f3.length x.f3) (hm : mayV x = true) :
    Calls Try.prog 53 #[.agg #[.int .u8 x.f0, .int .i64 x.f1, .string x.f2, .slice A x.f3.length c, .int .i64 x.f4]] w fun e w' => ∃ v, e = .returned (.tuple #[v, .int .i64 0]) ∧ Owned x w v w' := by
  have HF := Aside0.mk hF
  have HM := Aside0.mk hm
  have HC := Aside0.mk hc
  clear hF hm hc
  go_enter Try.func53, Try.ntmps53
  go_wp2_with fail
  refine (may_calls x A c _ ok (Kd.F_alloc (Kd.F_alloc HF.out _) _)).mono ?_
  rintro e w1 ⟨rfl, hx1⟩
  have hm' := HM.out
  rw [hm']
  clear hm'
  obtain ⟨hc, hf⟩ := hx1.cells
  have HF1 := Aside0.mk (ex_F hx1 (Kd.F_alloc (Kd.F_alloc HF.out _) _) (fun _ _ h => h))
  have HB1 := Aside0.mk (hx1.blk (blk_new2 w _ _) (fun h => h))
  have HX1 := Aside0.mk ((((Ex.refl (fun _ => False) w).alloc _).alloc _).trans hx1 (fun _ h => h.elim))
  clear hx1
  go_wp2_with fail
  refine (vown_calls x A c _ ok HC.out HF1.out HM.out).mono ?_
  rintro e w2 ⟨v, rfl, A3, c3, rfl, l3, hR, hx2⟩
  have HB2 := Aside0.mk (hx2.blk HB1.out (fun h => h))
  have h0 := (blk_cell HB2.out 0).trans rfl
  have h1 := (blk_cell HB2.out 1).trans rfl
  have h2 := (blk_cell HB2.out 2).trans rfl
  have h3 := (blk_cell HB2.out 3).trans rfl
  have h4 := (blk_cell HB2.out 4).trans rfl
  have f0 := blk_frozen HB2.out 0
  have f1 := blk_frozen HB2.out 1
  have f2 := blk_frozen HB2.out 2
  have f3 := blk_frozen HB2.out 3
  have f4 := blk_frozen HB2.out 4
  have hl2 := lt_of_blk HB2.out
  have HH := Aside0.mk (And.intro l3 (And.intro hR (HX1.out.trans hx2 (fun _ h => h.elim))))
  clear l3 hR hx2 hc hf
  go_wp2_with fail
  refine bodyPost_ret (results_row_tmp rfl _ _ (w.heap.size + 1) 27 _ (0, 0) _ rfl (put27 HB2.out rfl _ _ _ _ _) Try.underlying27 rfl size27) rfl ?_
  refine ⟨_, rfl, A3, c3, rfl, HH.out.1, ?_, ?_⟩
  · have hR := Kd.R_lower (Kd.R_mono (Kd.R_bound HH.out.2.1) (fun k hk => (show w.heap.size ≤ k ∧ k ≠ w.heap.size + 1 by have := hk.1; have := HX1.out.size; have := lt_of_blk HB1.out; omega))) HX1.out.size
    refine Kd.R_mono (Kd.R_step hR ?_) (fun k hk => hk.1)
    intro k hk hlt
    exact (ex_put27 (Ex.refl (fun b => b = w.heap.size + 1) _) (.inl rfl) _ _ _ _ _).block k hlt hk.2
  · exact ex_put27 HH.out.2.2 (.inr (Nat.le_succ _)) _ _ _ _ _

set_option maxHeartbeats 400000 in
/-- brand.own -/
theorem own_calls (x : S27) (A : Option Addr) (c : Nat) (w : World) (ok : Nat → Prop) (hc : x.f3.length ≤ c) (hF : Kd.F k27 w ok A x.f3.length x.f3) (hm : mayV x = true) :
    Calls Try.prog 40 #[.agg #[.int .u8 x.f0, .int .i64 x.f1, .string x.f2, .slice A x.f3.length c, .int .i64 x.f4]] w fun e w' => ∃ v, e = .returned v ∧ Owned x w v w' := by
  have HF := Aside0.mk hF
  have HM := Aside0.mk hm
  have HC := Aside0.mk hc
  clear hF hm hc
  go_enter Try.func40, Try.ntmps40
  go_wp2_with fail
  refine (Own_calls x A c _ ok HC.out (Kd.F_alloc (Kd.F_alloc HF.out _) _) HM.out).mono ?_
  rintro e w1 ⟨v, rfl, A3, c3, rfl, l3, hR, hx1⟩
  have HB1 := Aside0.mk (hx1.blk (blk_new2 w _ _) (fun h => h))
  have HX1 := Aside0.mk ((((Ex.refl (fun _ => False) w).alloc _).alloc _).trans hx1 (fun _ h => h.elim))
  have h0 := (blk_cell HB1.out 0).trans rfl
  have h1 := (blk_cell HB1.out 1).trans rfl
  have h2 := (blk_cell HB1.out 2).trans rfl
  have h3 := (blk_cell HB1.out 3).trans rfl
  have h4 := (blk_cell HB1.out 4).trans rfl
  have f0 := blk_frozen HB1.out 0
  have f1 := blk_frozen HB1.out 1
  have f2 := blk_frozen HB1.out 2
  have f3 := blk_frozen HB1.out 3
  have f4 := blk_frozen HB1.out 4
  have hl1 := lt_of_blk HB1.out
  have HH := Aside0.mk (And.intro l3 hR)
  clear l3 hR hx1
  go_wp2_with fail
  refine bodyPost_ret (results_cell_row rfl _ _ (w.heap.size + 1) 27 _ (0, 0) _ rfl (blk_alloc (put27 HB1.out rfl _ _ _ _ _) _) Try.underlying27 rfl size27) rfl ?_
  refine ⟨_, rfl, A3, c3, rfl, HH.out.1, ?_, ?_⟩
  · have hR := Kd.R_lower (Kd.R_mono (Kd.R_bound HH.out.2) (fun k hk => (show w.heap.size ≤ k ∧ k ≠ w.heap.size + 1 by have := hk.1; simp at this; omega))) (show w.heap.size ≤ _ by simp; omega)
    refine Kd.R_mono (Kd.R_step hR ?_) (fun k hk => hk.1)
    intro k hk hlt
    exact ((ex_put27 (Ex.refl (fun b => b = w.heap.size + 1) _) (.inl rfl) _ _ _ _ _).alloc _).block k hlt hk.2
  · exact (ex_put27 HX1.out (.inr (Nat.le_succ _)) _ _ _ _ _).alloc _

end Go.Proofs.Ythkemcekcfccpaa.PBrandCompares

namespace Go.Proofs.Ythkemcekcfccpaa.PBrandCompares
open Go.RowKit Go.Proofs.YthkemcekcfccpaaW.PrintWords Go.Proofs.YthkemcekcfccpaaW.PrintLast Go.Proofs.YthkemcekcfccpaaW.PrintMore
open Go.Proofs.Ythkemcekcfccpaa.GBrandCompares
set_option linter.unusedVariables false
set_option linter.unusedSimpArgs false

/-- what stands under a mark: the mark, the key, the value, which one came; where their lists lie; the two entries' stamps -/
structure Row where
  m : Mk
  k : S27
  v : S27
  A : Option Addr
  ca : Nat
  B : Option Addr
  cb : Nat
  n : Nat
  b1 : Nat
  b2 : Nat

def Row.val (r : Row) : Value := .agg #[.int .u8 r.k.f0, .int .i64 r.k.f1, .string r.k.f2, .slice r.A r.k.f3.length r.ca, .int .i64 r.k.f4, .int .u8 r.v.f0, .int .i64 r.v.f1, .string r.v.f2, .slice r.B r.v.f3.length r.cb, .int .i64 r.v.f4, .int .i64 r.n]
def Row.e1 (r : Row) : MapEntry := { key := r.m.val, val := r.val, born := r.b1 }
def Row.e2 (r : Row) : MapEntry := { key := .int .i64 r.n, val := r.m.val, born := r.b2 }

/-- a row is good, over a world's blocks T -/
structure Row.Good (w : World) (T : Nat → Prop) (r : Row) : Prop where
  mark : MarkOf r.k r.m
  key : Key r.m
  mayk : mayV r.k = true
  mayv : mayV r.v = true
  lk : r.k.f3.length ≤ r.ca
  lv : r.v.f3.length ≤ r.cb
  fk : Kd.F k27 w T r.A r.k.f3.length r.k.f3
  fv : Kd.F k27 w T r.B r.v.f3.length r.v.f3

/-- the memory at g is a table: T has its blocks -/
structure Tab (w : World) (g mb ob : Nat) (T : Nat → Prop) (rows : List Row) (came : Nat) : Prop where
  hg : w.heap[g]? = some (.cells #[.map (some mb), .map (some ob), .int .i64 came] 66 (0, 0))
  hm : ∃ es c, w.heap[mb]? = some (.map es c) ∧ es.toList = rows.map Row.e1
  ho : ∃ es c, w.heap[ob]? = some (.map es c) ∧ es.toList = rows.map Row.e2
  good : ∀ r ∈ rows, r.Good w (fun b => T b ∧ b ≠ g ∧ b ≠ mb ∧ b ≠ ob)
  tg : T g
  tm : T mb
  tb : T ob
  ne : mb ≠ ob
  nums : ∀ r ∈ rows, 1 ≤ r.n ∧ r.n ≤ came
  marks : rows.Pairwise (fun r s => r.m ≠ s.m)
  cames : rows.Pairwise (fun r s => r.n ≠ s.n)

theorem Row.Good.ex {S T : Nat → Prop} {w w1 : World} {r : Row} (h : r.Good w T) (hx : Ex S w w1) (hs : ∀ b, T b → ¬ S b) : r.Good w1 T :=
  { h with fk := ex_F hx h.fk hs, fv := ex_F hx h.fv hs }
theorem Row.Good.mono {T T' : Nat → Prop} {w : World} {r : Row} (h : r.Good w T) (ht : ∀ b, T b → T' b) : r.Good w T' :=
  { h with fk := Kd.F_mono h.fk ht, fv := Kd.F_mono h.fv ht }

/-- what turns none of its blocks leaves a table a table -/
theorem Tab.ex {S T : Nat → Prop} {w w1 : World} {g mb ob : Nat} {rows : List Row} {came : Nat} (h : Tab w g mb ob T rows came) (hx : Ex S w w1) (hs : ∀ b, T b → ¬ S b) : Tab w1 g mb ob T rows came :=
  { h with
    hg := hx.blk h.hg (hs _ h.tg)
    hm := let ⟨es, c, h1, h2⟩ := h.hm; ⟨es, c, hx.blk h1 (hs _ h.tm), h2⟩
    ho := let ⟨es, c, h1, h2⟩ := h.ho; ⟨es, c, hx.blk h1 (hs _ h.tb), h2⟩
    good := fun r hr => (h.good r hr).ex hx (fun b hb => hs b hb.1) }
theorem Tab.ex0 {T : Nat → Prop} {w w1 : World} {g mb ob : Nat} {rows : List Row} {came : Nat} (h : Tab w g mb ob T rows came) (hx : Ex (fun _ => False) w w1) : Tab w1 g mb ob T rows came := h.ex hx (fun _ _ h => h)
theorem Tab.mono {T T' : Nat → Prop} {w : World} {g mb ob : Nat} {rows : List Row} {came : Nat} (h : Tab w g mb ob T rows came) (ht : ∀ b, T b → T' b) : Tab w g mb ob T' rows came :=
  { h with tg := ht _ h.tg, tm := ht _ h.tm, tb := ht _ h.tb, good := fun r hr => (h.good r hr).mono (fun b hb => ⟨ht b hb.1, hb.2⟩) }

theorem Tab.keys_map {T : Nat → Prop} {w : World} {g mb ob : Nat} {rows : List Row} {came : Nat} (h : Tab w g mb ob T rows came) {es : Array MapEntry} (he : es.toList = rows.map Row.e1) : es.toList.map (·.key) = (rows.map (·.m)).map Mk.val := by
  rw [he]; simp [Row.e1]
theorem Tab.key_all {T : Nat → Prop} {w : World} {g mb ob : Nat} {rows : List Row} {came : Nat} (h : Tab w g mb ob T rows came) : ∀ m ∈ rows.map (·.m), Key m := by
  intro m hm
  obtain ⟨r, hr, rfl⟩ := List.mem_map.1 hm
  exact (h.good r hr).key

/-- nothing under any mark -/
def zrow : Row := ⟨.nothing, z27, z27, none, 0, none, 0, 0, 0, 0⟩
theorem info78 : (Try.prog.info? 78).map (fun i => (i.zero, i.size, i.bytes)) = some (some zrow.val, 11, 136) := by kernel_rfl

/-- a table's entry written over, field by field -/
theorem put78 {w : World} {g : Nat} {x0 x1 x2 x3 x4 x5 x6 x7 x8 x9 x10 : Value} (h : w.heap[g]? = some (.cells #[x0, x1, x2, x3, x4, x5, x6, x7, x8, x9, x10] 78 (0, 0))) (a0 a1 a2 a3 a4 a5 a6 a7 a8 a9 a10 : Value) : (((((((((((w.setCell ⟨g, 0, none⟩ a0).setCell ⟨g, 1, none⟩ a1).setCell ⟨g, 2, none⟩ a2).setCell ⟨g, 3, none⟩ a3).setCell ⟨g, 4, none⟩ a4).setCell ⟨g, 5, none⟩ a5).setCell ⟨g, 6, none⟩ a6).setCell ⟨g, 7, none⟩ a7).setCell ⟨g, 8, none⟩ a8).setCell ⟨g, 9, none⟩ a9).setCell ⟨g, 10, none⟩ a10).heap[g]? = some (.cells #[a0, a1, a2, a3, a4, a5, a6, a7, a8, a9, a10] 78 (0, 0)) := by
  have h0 : (w.setCell ⟨g, 0, none⟩ a0).heap[g]? = some (.cells #[a0, x1, x2, x3, x4, x5, x6, x7, x8, x9, x10] 78 (0, 0)) := blk_put h 0 _ rfl
  have h1 : ((w.setCell ⟨g, 0, none⟩ a0).setCell ⟨g, 1, none⟩ a1).heap[g]? = some (.cells #[a0, a1, x2, x3, x4, x5, x6, x7, x8, x9, x10] 78 (0, 0)) := blk_put h0 1 _ rfl
  have h2 : (((w.setCell ⟨g, 0, none⟩ a0).setCell ⟨g, 1, none⟩ a1).setCell ⟨g, 2, none⟩ a2).heap[g]? = some (.cells #[a0, a1, a2, x3, x4, x5, x6, x7, x8, x9, x10] 78 (0, 0)) := blk_put h1 2 _ rfl
  have h3 : ((((w.setCell ⟨g, 0, none⟩ a0).setCell ⟨g, 1, none⟩ a1).setCell ⟨g, 2, none⟩ a2).setCell ⟨g, 3, none⟩ a3).heap[g]? = some (.cells #[a0, a1, a2, a3, x4, x5, x6, x7, x8, x9, x10] 78 (0, 0)) := blk_put h2 3 _ rfl
  have h4 : (((((w.setCell ⟨g, 0, none⟩ a0).setCell ⟨g, 1, none⟩ a1).setCell ⟨g, 2, none⟩ a2).setCell ⟨g, 3, none⟩ a3).setCell ⟨g, 4, none⟩ a4).heap[g]? = some (.cells #[a0, a1, a2, a3, a4, x5, x6, x7, x8, x9, x10] 78 (0, 0)) := blk_put h3 4 _ rfl
  have h5 : ((((((w.setCell ⟨g, 0, none⟩ a0).setCell ⟨g, 1, none⟩ a1).setCell ⟨g, 2, none⟩ a2).setCell ⟨g, 3, none⟩ a3).setCell ⟨g, 4, none⟩ a4).setCell ⟨g, 5, none⟩ a5).heap[g]? = some (.cells #[a0, a1, a2, a3, a4, a5, x6, x7, x8, x9, x10] 78 (0, 0)) := blk_put h4 5 _ rfl
  have h6 : (((((((w.setCell ⟨g, 0, none⟩ a0).setCell ⟨g, 1, none⟩ a1).setCell ⟨g, 2, none⟩ a2).setCell ⟨g, 3, none⟩ a3).setCell ⟨g, 4, none⟩ a4).setCell ⟨g, 5, none⟩ a5).setCell ⟨g, 6, none⟩ a6).heap[g]? = some (.cells #[a0, a1, a2, a3, a4, a5, a6, x7, x8, x9, x10] 78 (0, 0)) := blk_put h5 6 _ rfl
  have h7 : ((((((((w.setCell ⟨g, 0, none⟩ a0).setCell ⟨g, 1, none⟩ a1).setCell ⟨g, 2, none⟩ a2).setCell ⟨g, 3, none⟩ a3).setCell ⟨g, 4, none⟩ a4).setCell ⟨g, 5, none⟩ a5).setCell ⟨g, 6, none⟩ a6).setCell ⟨g, 7, none⟩ a7).heap[g]? = some (.cells #[a0, a1, a2, a3, a4, a5, a6, a7, x8, x9, x10] 78 (0, 0)) := blk_put h6 7 _ rfl
  have h8 : (((((((((w.setCell ⟨g, 0, none⟩ a0).setCell ⟨g, 1, none⟩ a1).setCell ⟨g, 2, none⟩ a2).setCell ⟨g, 3, none⟩ a3).setCell ⟨g, 4, none⟩ a4).setCell ⟨g, 5, none⟩ a5).setCell ⟨g, 6, none⟩ a6).setCell ⟨g, 7, none⟩ a7).setCell ⟨g, 8, none⟩ a8).heap[g]? = some (.cells #[a0, a1, a2, a3, a4, a5, a6, a7, a8, x9, x10] 78 (0, 0)) := blk_put h7 8 _ rfl
  have h9 : ((((((((((w.setCell ⟨g, 0, none⟩ a0).setCell ⟨g, 1, none⟩ a1).setCell ⟨g, 2, none⟩ a2).setCell ⟨g, 3, none⟩ a3).setCell ⟨g, 4, none⟩ a4).setCell ⟨g, 5, none⟩ a5).setCell ⟨g, 6, none⟩ a6).setCell ⟨g, 7, none⟩ a7).setCell ⟨g, 8, none⟩ a8).setCell ⟨g, 9, none⟩ a9).heap[g]? = some (.cells #[a0, a1, a2, a3, a4, a5, a6, a7, a8, a9, x10] 78 (0, 0)) := blk_put h8 9 _ rfl
  have h10 : (((((((((((w.setCell ⟨g, 0, none⟩ a0).setCell ⟨g, 1, none⟩ a1).setCell ⟨g, 2, none⟩ a2).setCell ⟨g, 3, none⟩ a3).setCell ⟨g, 4, none⟩ a4).setCell ⟨g, 5, none⟩ a5).setCell ⟨g, 6, none⟩ a6).setCell ⟨g, 7, none⟩ a7).setCell ⟨g, 8, none⟩ a8).setCell ⟨g, 9, none⟩ a9).setCell ⟨g, 10, none⟩ a10).heap[g]? = some (.cells #[a0, a1, a2, a3, a4, a5, a6, a7, a8, a9, a10] 78 (0, 0)) := blk_put h9 10 _ rfl
  exact h10
theorem ex_put78 {S : Nat → Prop} {w0 w : World} {g : Nat} (h : Ex S w0 w) (hg : S g ∨ w0.heap.size ≤ g) (a0 a1 a2 a3 a4 a5 a6 a7 a8 a9 a10 : Value) : Ex S w0 (((((((((((w.setCell ⟨g, 0, none⟩ a0).setCell ⟨g, 1, none⟩ a1).setCell ⟨g, 2, none⟩ a2).setCell ⟨g, 3, none⟩ a3).setCell ⟨g, 4, none⟩ a4).setCell ⟨g, 5, none⟩ a5).setCell ⟨g, 6, none⟩ a6).setCell ⟨g, 7, none⟩ a7).setCell ⟨g, 8, none⟩ a8).setCell ⟨g, 9, none⟩ a9).setCell ⟨g, 10, none⟩ a10) :=
  (((((((((((h.set (p := ⟨g, 0, none⟩) hg a0).set (p := ⟨g, 1, none⟩) hg a1).set (p := ⟨g, 2, none⟩) hg a2).set (p := ⟨g, 3, none⟩) hg a3).set (p := ⟨g, 4, none⟩) hg a4).set (p := ⟨g, 5, none⟩) hg a5).set (p := ⟨g, 6, none⟩) hg a6).set (p := ⟨g, 7, none⟩) hg a7).set (p := ⟨g, 8, none⟩) hg a8).set (p := ⟨g, 9, none⟩) hg a9).set (p := ⟨g, 10, none⟩) hg a10)

/-- the map of the order, one more behind all -/
theorem find_order (k : Int) : ∀ (l : List MapEntry) (i : Nat), (∀ e ∈ l, ∃ n : Int, e.key = .int .i64 n ∧ n ≠ k) → Instr.findNow (.int .i64) (.int .i64 k) l i = some none
  | [], _, _ => rfl
  | e :: l, i, h => by
    obtain ⟨n, he, hn⟩ := h e (.head _)
    unfold Instr.findNow
    rw [he]
    simp only [Instr.sameNow, if_true]
    rw [show ((k == n) : Bool) = false by simpa using Ne.symm hn]
    exact find_order k l (i + 1) (fun e he => h e (.tail _ he))
theorem run_order {w : World} {r clock : Nat} {es : Array MapEntry} {rows : List Row} {came : Nat} (hb : w.heap[r]? = some (.map es clock)) (hes : es.toList = rows.map Row.e2) (hn : ∀ r ∈ rows, 1 ≤ r.n ∧ r.n ≤ came) (v : Value) :
    (Instr.mapUpdate 64 (.map (some r)) (.int .i64 ((came : Int) + 1)) v).run Try.prog w = .ok () (setB w r (.map (es.push { key := .int .i64 ((came : Int) + 1), val := v, born := clock }) (clock + 1))) := by
  unfold Instr.mapUpdate
  rw [Sem.run_bind, run_underlying Try.underlying64, Result.andThen_ok]
  have hc : (Instr.checkKey false 10000 3 (.int .i64 ((came : Int) + 1))).run Try.prog w = .ok () w := check_int Try.underlying3 false 9999 _ w
  have hf : (Instr.findKey 3 (.int .i64 ((came : Int) + 1)) es.toList).run Try.prog w = .ok none w := Go.MapKept.run_findKey Try.underlying3 (find_order _ _ _ (by
    rw [hes]
    intro e he
    obtain ⟨r, hr, rfl⟩ := List.mem_map.1 he
    exact ⟨r.n, rfl, by have := hn r hr; omega⟩))
  simp only [Sem.run_bind, Go.MapKept.run_getObj_map hb, Result.andThen_ok, Sem.run_pure, hc, hf]
  exact Go.MapKept.run_setObj_map _ hb

theorem put78v {w : World} {g : Nat} {x0 x1 x2 x3 x4 x5 x6 x7 x8 x9 x10 : Value} (h : w.heap[g]? = some (.cells #[x0, x1, x2, x3, x4, x5, x6, x7, x8, x9, x10] 78 (0, 0))) (a5 a6 a7 a8 a9 : Value) : (((((w.setCell ⟨g, 5, none⟩ a5).setCell ⟨g, 6, none⟩ a6).setCell ⟨g, 7, none⟩ a7).setCell ⟨g, 8, none⟩ a8).setCell ⟨g, 9, none⟩ a9).heap[g]? = some (.cells #[x0, x1, x2, x3, x4, a5, a6, a7, a8, a9, x10] 78 (0, 0)) := by
  have h5 : (w.setCell ⟨g, 5, none⟩ a5).heap[g]? = some (.cells #[x0, x1, x2, x3, x4, a5, x6, x7, x8, x9, x10] 78 (0, 0)) := blk_put h 5 _ rfl
  have h6 : ((w.setCell ⟨g, 5, none⟩ a5).setCell ⟨g, 6, none⟩ a6).heap[g]? = some (.cells #[x0, x1, x2, x3, x4, a5, a6, x7, x8, x9, x10] 78 (0, 0)) := blk_put h5 6 _ rfl
  have h7 : (((w.setCell ⟨g, 5, none⟩ a5).setCell ⟨g, 6, none⟩ a6).setCell ⟨g, 7, none⟩ a7).heap[g]? = some (.cells #[x0, x1, x2, x3, x4, a5, a6, a7, x8, x9, x10] 78 (0, 0)) := blk_put h6 7 _ rfl
  have h8 : ((((w.setCell ⟨g, 5, none⟩ a5).setCell ⟨g, 6, none⟩ a6).setCell ⟨g, 7, none⟩ a7).setCell ⟨g, 8, none⟩ a8).heap[g]? = some (.cells #[x0, x1, x2, x3, x4, a5, a6, a7, a8, x9, x10] 78 (0, 0)) := blk_put h7 8 _ rfl
  have h9 : (((((w.setCell ⟨g, 5, none⟩ a5).setCell ⟨g, 6, none⟩ a6).setCell ⟨g, 7, none⟩ a7).setCell ⟨g, 8, none⟩ a8).setCell ⟨g, 9, none⟩ a9).heap[g]? = some (.cells #[x0, x1, x2, x3, x4, a5, a6, a7, a8, a9, x10] 78 (0, 0)) := blk_put h8 9 _ rfl
  exact h9
theorem ex_put78v {S : Nat → Prop} {w0 w : World} {g : Nat} (h : Ex S w0 w) (hg : S g ∨ w0.heap.size ≤ g) (a5 a6 a7 a8 a9 : Value) : Ex S w0 (((((w.setCell ⟨g, 5, none⟩ a5).setCell ⟨g, 6, none⟩ a6).setCell ⟨g, 7, none⟩ a7).setCell ⟨g, 8, none⟩ a8).setCell ⟨g, 9, none⟩ a9) :=
  (((((h.set (p := ⟨g, 5, none⟩) hg a5).set (p := ⟨g, 6, none⟩) hg a6).set (p := ⟨g, 7, none⟩) hg a7).set (p := ⟨g, 8, none⟩) hg a8).set (p := ⟨g, 9, none⟩) hg a9)

theorem posMk_none {a : Mk} {ms : List Mk} (ha : a.keys = true) (h : posMk a ms = none) : ∀ m ∈ ms, m ≠ a := by
  rintro m hm rfl
  unfold posMk at h
  have := List.findIdx?_eq_none_iff.1 h m hm
  rcases cmp_keys m m ha ha with ⟨h1, _⟩ | ⟨_, h1⟩
  · rw [h1] at this; simp at this
  · exact h1 rfl
theorem R_F {w : World} {base c : Nat} {ok : Nat → Prop} {A : Option Addr} {xs : List S27} (h : Kd.R k27 27 w base ok (.slice A xs.length c) xs) : Kd.F k27 w ok A xs.length xs := Kd.V_F (Kd.R_V (base' := 0) h)

/-- the map of the marks, one more behind all -/
theorem run_new {w : World} {r clock : Nat} {es : Array MapEntry} {ms : List Mk} {a : Mk} (hb : w.heap[r]? = some (.map es clock)) (ha : Key a) (hm : ∀ m ∈ ms, Key m) (hl : es.toList.map (·.key) = ms.map Mk.val) (hp : posMk a ms = none) (v : Value) :
    (Instr.mapUpdate 63 (.map (some r)) a.val v).run Try.prog w = .ok () (setB w r (.map (es.push { key := a.val, val := v, born := clock }) (clock + 1))) := by
  have h := run_put 63 78 Try.underlying63 hb ha hm hl v
  rw [hp] at h
  exact h
/-- .. one that is there written over -/
theorem run_old {w : World} {r clock : Nat} {es : Array MapEntry} {ms : List Mk} {a : Mk} {j : Nat} (hb : w.heap[r]? = some (.map es clock)) (ha : Key a) (hm : ∀ m ∈ ms, Key m) (hl : es.toList.map (·.key) = ms.map Mk.val) (hp : posMk a ms = some j) (v : Value) :
    (Instr.mapUpdate 63 (.map (some r)) a.val v).run Try.prog w = .ok () (setB w r (.map (es.modify j fun e => { e with key := a.val, val := v }) clock)) := by
  have h := run_put 63 78 Try.underlying63 hb ha hm hl v
  rw [hp] at h
  exact h

end Go.Proofs.Ythkemcekcfccpaa.PBrandCompares

namespace Go.Proofs.Ythkemcekcfccpaa.PBrandCompares
open Go.RowKit Go.Proofs.YthkemcekcfccpaaW.PrintWords Go.Proofs.YthkemcekcfccpaaW.PrintLast Go.Proofs.YthkemcekcfccpaaW.PrintMore
open Go.Proofs.Ythkemcekcfccpaa.GBrandCompares
set_option linter.unusedVariables false
set_option linter.unusedSimpArgs false

abbrev PUT (x y : S27) (A B : Option Addr) (c d g : Nat) (w : World) (R : Ending → World → Prop) : Prop :=
  Calls Try.prog 15 #[.pointer (some ⟨g, 0, none⟩), .agg #[.int .u8 x.f0, .int .i64 x.f1, .string x.f2, .slice A x.f3.length c, .int .i64 x.f4], .agg #[.int .u8 y.f0, .int .i64 y.f1, .string y.f2, .slice B y.f3.length d, .int .i64 y.f4]] w R

/-- the value that is none -/
def zval : Value := .agg #[.int .u8 0, .int .i64 0, .string ⟨#[]⟩, .slice none 0 0, .int .i64 0]

set_option maxHeartbeats 400000 in
theorem put_arg1 (x y : S27) (A B : Option Addr) (c d g mb : Nat) (b3 b4 : Value) (w : World) (ok : Nat → Prop) (h : w.heap[g]? = some (.cells #[.map (some mb), b3, b4] 66 (0, 0))) (hF : Kd.F k27 w ok A x.f3.length x.f3) (hF2 : Kd.F k27 w ok B y.f3.length y.f3) (hm : mayV x = false) : PUT x y A B c d g w fun e w' => e = .returned (.tuple #[zval, .bool false, .int .i64 2]) ∧ Ex (fun _ => False) w w' := by
  have HG := Aside0.mk h
  have HF := Aside0.mk hF
  have HM := Aside0.mk hm
  clear h hF hm hF2
  unfold PUT
  go_enter Try.func15, Try.ntmps15
  go_wp2_with fail
  refine (none_no g mb b3 b4 _ (blk_alloc (blk_alloc (blk_alloc HG.out _) _) _)).mono ?_
  rintro e w1 ⟨rfl, rfl⟩
  go_wp2_with fail
  refine (may_calls x A c _ _ (Kd.F_alloc (Kd.F_alloc (Kd.F_alloc HF.out _) _) _)).mono ?_
  rintro e w1 ⟨rfl, hx1⟩
  have hm' := HM.out
  rw [hm']
  clear hm'
  have HG1 := Aside0.mk (hx1.blk (blk_alloc (blk_alloc (blk_alloc HG.out _) _) _) (fun h => h))
  have HK1 := Aside0.mk (hx1.blk (blk_alloc (blk_alloc (blk_new1 w _) _) _) (fun h => h))
  have HV1 := Aside0.mk (hx1.blk (blk_alloc (blk_new2 w _ _) _) (fun h => h))
  have HB1 := Aside0.mk (show w1.heap[w.heap.size + 1 + 1]? = some (.cells #[.int .u8 0, .int .i64 0, .string ⟨#[]⟩, .slice none 0 0, .int .i64 0] 27 (0, 0)) from hx1.blk (blk_new3 w _ _ _) (fun h => h))
  have HX1 := Aside0.mk (((((Ex.refl (fun _ => False) w).alloc _).alloc _).alloc _).trans hx1 (fun _ h => h.elim))
  clear hx1
  have bc0 := (blk_cell HB1.out 0).trans rfl
  have bc1 := (blk_cell HB1.out 1).trans rfl
  have bc2 := (blk_cell HB1.out 2).trans rfl
  have bc3 := (blk_cell HB1.out 3).trans rfl
  have bc4 := (blk_cell HB1.out 4).trans rfl
  have bf0 := blk_frozen HB1.out 0
  have bf1 := blk_frozen HB1.out 1
  have bf2 := blk_frozen HB1.out 2
  have bf3 := blk_frozen HB1.out 3
  have bf4 := blk_frozen HB1.out 4
  have bl := lt_of_blk HB1.out
  go_wp2_with fail
  refine bodyPost_ret (results_row_tmp2 rfl _ _ (w.heap.size + 1 + 1) 27 _ (0, 0) _ rfl (put27 HB1.out rfl _ _ _ _ _) Try.underlying27 rfl size27) rfl ?_
  exact ⟨rfl, ex_put27 HX1.out (.inr (by omega)) _ _ _ _ _⟩

set_option maxHeartbeats 400000 in
theorem put_arg2 (x y : S27) (A B : Option Addr) (c d g mb : Nat) (b3 b4 : Value) (w : World) (ok : Nat → Prop) (h : w.heap[g]? = some (.cells #[.map (some mb), b3, b4] 66 (0, 0))) (hF : Kd.F k27 w ok A x.f3.length x.f3) (hF2 : Kd.F k27 w ok B y.f3.length y.f3) (hm : mayV x = true) (hn : mayV y = false) : PUT x y A B c d g w fun e w' => e = .returned (.tuple #[zval, .bool false, .int .i64 2]) ∧ Ex (fun _ => False) w w' := by
  have HG := Aside0.mk h
  have HF := Aside0.mk hF
  have HF2 := Aside0.mk hF2
  have HM := Aside0.mk hm
  have HN := Aside0.mk hn
  clear h hF hm hF2 hn
  unfold PUT
  go_enter Try.func15, Try.ntmps15
  go_wp2_with fail
  refine (none_no g mb b3 b4 _ (blk_alloc (blk_alloc (blk_alloc HG.out _) _) _)).mono ?_
  rintro e w1 ⟨rfl, rfl⟩
  go_wp2_with fail
  refine (may_calls x A c _ _ (Kd.F_alloc (Kd.F_alloc (Kd.F_alloc HF.out _) _) _)).mono ?_
  rintro e w1 ⟨rfl, hx1⟩
  have hm' := HM.out
  rw [hm']
  clear hm'
  have HG1 := Aside0.mk (hx1.blk (blk_alloc (blk_alloc (blk_alloc HG.out _) _) _) (fun h => h))
  have HK1 := Aside0.mk (hx1.blk (blk_alloc (blk_alloc (blk_new1 w _) _) _) (fun h => h))
  have HV1 := Aside0.mk (hx1.blk (blk_alloc (blk_new2 w _ _) _) (fun h => h))
  have HB1 := Aside0.mk (show w1.heap[w.heap.size + 1 + 1]? = some (.cells #[.int .u8 0, .int .i64 0, .string ⟨#[]⟩, .slice none 0 0, .int .i64 0] 27 (0, 0)) from hx1.blk (blk_new3 w _ _ _) (fun h => h))
  have HX1 := Aside0.mk (((((Ex.refl (fun _ => False) w).alloc _).alloc _).alloc _).trans hx1 (fun _ h => h.elim))
  clear hx1
  have vc0 := (blk_cell HV1.out 0).trans rfl
  have vc1 := (blk_cell HV1.out 1).trans rfl
  have vc2 := (blk_cell HV1.out 2).trans rfl
  have vc3 := (blk_cell HV1.out 3).trans rfl
  have vc4 := (blk_cell HV1.out 4).trans rfl
  have vf0 := blk_frozen HV1.out 0
  have vf1 := blk_frozen HV1.out 1
  have vf2 := blk_frozen HV1.out 2
  have vf3 := blk_frozen HV1.out 3
  have vf4 := blk_frozen HV1.out 4
  have vl := lt_of_blk HV1.out
  go_wp2_with fail
  refine (may_calls y B d _ _ (ex_F HX1.out HF2.out (fun _ _ h => h))).mono ?_
  rintro e w2 ⟨rfl, hx2⟩
  have hm' := HN.out
  rw [hm']
  clear hm'
  have HG2 := Aside0.mk (hx2.blk HG1.out (fun h => h))
  have HK2 := Aside0.mk (hx2.blk HK1.out (fun h => h))
  have HV2 := Aside0.mk (hx2.blk HV1.out (fun h => h))
  have HB2 := Aside0.mk (hx2.blk HB1.out (fun h => h))
  have HX2 := Aside0.mk (HX1.out.trans hx2 (fun _ h => h.elim))
  clear hx2
  clear vc0 vc1 vc2 vc3 vc4 vf0 vf1 vf2 vf3 vf4 vl
  have bc0 := (blk_cell HB2.out 0).trans rfl
  have bc1 := (blk_cell HB2.out 1).trans rfl
  have bc2 := (blk_cell HB2.out 2).trans rfl
  have bc3 := (blk_cell HB2.out 3).trans rfl
  have bc4 := (blk_cell HB2.out 4).trans rfl
  have bf0 := blk_frozen HB2.out 0
  have bf1 := blk_frozen HB2.out 1
  have bf2 := blk_frozen HB2.out 2
  have bf3 := blk_frozen HB2.out 3
  have bf4 := blk_frozen HB2.out 4
  have bl := lt_of_blk HB2.out
  go_wp2_with fail
  refine bodyPost_ret (results_row_tmp2 rfl _ _ (w.heap.size + 1 + 1) 27 _ (0, 0) _ rfl (put27 HB2.out rfl _ _ _ _ _) Try.underlying27 rfl size27) rfl ?_
  exact ⟨rfl, ex_put27 HX2.out (.inr (by omega)) _ _ _ _ _⟩

set_option maxHeartbeats 400000 in
theorem put_key (x y : S27) (A B : Option Addr) (c d g mb : Nat) (b3 b4 : Value) (w : World) (ok : Nat → Prop) (h : w.heap[g]? = some (.cells #[.map (some mb), b3, b4] 66 (0, 0))) (hF : Kd.F k27 w ok A x.f3.length x.f3) (hF2 : Kd.F k27 w ok B y.f3.length y.f3) (hm : mayV x = true) (hn : mayV y = true) (hk : ∀ m, MarkOf x m → m.keys = false) : PUT x y A B c d g w fun e w' => e = .returned (.tuple #[zval, .bool false, .int .i64 40]) ∧ Ex (fun _ => False) w w' := by
  have HG := Aside0.mk h
  have HF := Aside0.mk hF
  have HF2 := Aside0.mk hF2
  have HM := Aside0.mk hm
  have HN := Aside0.mk hn
  have HKK := Aside0.mk hk
  clear h hF hm hF2 hn hk
  unfold PUT
  go_enter Try.func15, Try.ntmps15
  go_wp2_with fail
  refine (none_no g mb b3 b4 _ (blk_alloc (blk_alloc (blk_alloc HG.out _) _) _)).mono ?_
  rintro e w1 ⟨rfl, rfl⟩
  go_wp2_with fail
  refine (may_calls x A c _ _ (Kd.F_alloc (Kd.F_alloc (Kd.F_alloc HF.out _) _) _)).mono ?_
  rintro e w1 ⟨rfl, hx1⟩
  have hm' := HM.out
  rw [hm']
  clear hm'
  have HG1 := Aside0.mk (hx1.blk (blk_alloc (blk_alloc (blk_alloc HG.out _) _) _) (fun h => h))
  have HK1 := Aside0.mk (hx1.blk (blk_alloc (blk_alloc (blk_new1 w _) _) _) (fun h => h))
  have HV1 := Aside0.mk (hx1.blk (blk_alloc (blk_new2 w _ _) _) (fun h => h))
  have HB1 := Aside0.mk (show w1.heap[w.heap.size + 1 + 1]? = some (.cells #[.int .u8 0, .int .i64 0, .string ⟨#[]⟩, .slice none 0 0, .int .i64 0] 27 (0, 0)) from hx1.blk (blk_new3 w _ _ _) (fun h => h))
  have HX1 := Aside0.mk (((((Ex.refl (fun _ => False) w).alloc _).alloc _).alloc _).trans hx1 (fun _ h => h.elim))
  clear hx1
  have vc0 := (blk_cell HV1.out 0).trans rfl
  have vc1 := (blk_cell HV1.out 1).trans rfl
  have vc2 := (blk_cell HV1.out 2).trans rfl
  have vc3 := (blk_cell HV1.out 3).trans rfl
  have vc4 := (blk_cell HV1.out 4).trans rfl
  have vf0 := blk_frozen HV1.out 0
  have vf1 := blk_frozen HV1.out 1
  have vf2 := blk_frozen HV1.out 2
  have vf3 := blk_frozen HV1.out 3
  have vf4 := blk_frozen HV1.out 4
  have vl := lt_of_blk HV1.out
  go_wp2_with fail
  refine (may_calls y B d _ _ (ex_F HX1.out HF2.out (fun _ _ h => h))).mono ?_
  rintro e w2 ⟨rfl, hx2⟩
  have hm' := HN.out
  rw [hm']
  clear hm'
  have HG2 := Aside0.mk (hx2.blk HG1.out (fun h => h))
  have HK2 := Aside0.mk (hx2.blk HK1.out (fun h => h))
  have HV2 := Aside0.mk (hx2.blk HV1.out (fun h => h))
  have HB2 := Aside0.mk (hx2.blk HB1.out (fun h => h))
  have HX2 := Aside0.mk (HX1.out.trans hx2 (fun _ h => h.elim))
  clear hx2
  clear vc0 vc1 vc2 vc3 vc4 vf0 vf1 vf2 vf3 vf4 vl
  have kc0 := (blk_cell HK2.out 0).trans rfl
  have kc1 := (blk_cell HK2.out 1).trans rfl
  have kc2 := (blk_cell HK2.out 2).trans rfl
  have kc3 := (blk_cell HK2.out 3).trans rfl
  have kc4 := (blk_cell HK2.out 4).trans rfl
  have kf0 := blk_frozen HK2.out 0
  have kf1 := blk_frozen HK2.out 1
  have kf2 := blk_frozen HK2.out 2
  have kf3 := blk_frozen HK2.out 3
  have kf4 := blk_frozen HK2.out 4
  have kl := lt_of_blk HK2.out
  go_wp2_with fail
  refine (find_key' x A c g mb b3 b4 _ ok HG2.out (ex_F HX2.out HF.out (fun _ _ h => h)) HM.out).mono ?_
  rintro e w3 ⟨m, h1, h2, hx3, rfl⟩
  have hk' := HKK.out m h1
  rw [hk']
  clear hk' h1 h2
  have HB3 := Aside0.mk (hx3.blk HB2.out (fun h => h))
  have HX3 := Aside0.mk (HX2.out.trans hx3 (fun _ h => h.elim))
  clear hx3
  clear kc0 kc1 kc2 kc3 kc4 kf0 kf1 kf2 kf3 kf4 kl
  have bc0 := (blk_cell HB3.out 0).trans rfl
  have bc1 := (blk_cell HB3.out 1).trans rfl
  have bc2 := (blk_cell HB3.out 2).trans rfl
  have bc3 := (blk_cell HB3.out 3).trans rfl
  have bc4 := (blk_cell HB3.out 4).trans rfl
  have bf0 := blk_frozen HB3.out 0
  have bf1 := blk_frozen HB3.out 1
  have bf2 := blk_frozen HB3.out 2
  have bf3 := blk_frozen HB3.out 3
  have bf4 := blk_frozen HB3.out 4
  have bl := lt_of_blk HB3.out
  go_wp2_with fail
  refine bodyPost_ret (results_row_tmp2 rfl _ _ (w.heap.size + 1 + 1) 27 _ (0, 0) _ rfl (put27 HB3.out rfl _ _ _ _ _) Try.underlying27 rfl size27) rfl ?_
  exact ⟨rfl, ex_put27 HX3.out (.inr (by omega)) _ _ _ _ _⟩

end Go.Proofs.Ythkemcekcfccpaa.PBrandCompares

namespace Go.Proofs.Ythkemcekcfccpaa.PBrandCompares
open Go.RowKit Go.Proofs.YthkemcekcfccpaaW.PrintWords Go.Proofs.YthkemcekcfccpaaW.PrintLast Go.Proofs.YthkemcekcfccpaaW.PrintMore
open Go.Proofs.Ythkemcekcfccpaa.GBrandCompares
set_option linter.unusedVariables false
set_option linter.unusedSimpArgs false

/-- nil, or a pointer to what no call made -/
def NoTab (w : World) (v : Value) : Prop := v = .pointer none ∨ ∃ g b c, v = .pointer (some ⟨g, 0, none⟩) ∧ w.heap[g]? = some (.cells #[.map none, b, c] 66 (0, 0))
theorem NoTab.ex {S : Nat → Prop} {w w1 : World} {v : Value} (h : NoTab w v) (hx : Ex S w w1) (hs : ∀ b, b < w.heap.size → ¬ S b) : NoTab w1 v := by
  rcases h with h | ⟨g, b, c, h1, h2⟩
  · exact .inl h
  · exact .inr ⟨g, b, c, h1, hx.blk h2 (hs g (lt_of_blk h2))⟩
theorem NoTab.ex0 {w w1 : World} {v : Value} (h : NoTab w v) (hx : Ex (fun _ => False) w w1) : NoTab w1 v := h.ex hx (fun _ _ h => h)
theorem NoTab.alloc {w : World} {v : Value} (h : NoTab w v) (o : Obj) : NoTab (w.alloc o) v := h.ex0 ((Ex.refl _ _).alloc o)
theorem none_nt (v : Value) (w : World) (h : NoTab w v) : Calls Try.prog 37 #[v] w fun e w' => e = .returned (.bool true) ∧ w' = w := by
  rcases h with rfl | ⟨g, b, c, rfl, h⟩
  · exact none_nil w
  · exact none_unmade g b c w h

theorem find_nt (v : Value) (x : Value) (w : World) (h : NoTab w v) (a0 a1 a2 a3 a4 : Int) (s : ByteArray) (A : Option Addr) (n c : Nat) :
    Calls Try.prog 39 #[v, .agg #[.int .u8 a0, .int .i64 a1, .string s, .slice A n c, .int .i64 a4]] w fun e w' => e = .returned (.tuple #[.nilIface, .int .i64 1]) ∧ Ex (fun _ => False) w w' := by
  have HN := Aside0.mk h
  clear h
  go_enter Try.func39, Try.ntmps39
  go_wp2_with fail
  refine (none_nt v _ (HN.out.alloc _)).mono ?_
  rintro e w1 ⟨rfl, rfl⟩
  go_wp2
  go_ret2
  exact ⟨rfl, (Ex.refl _ _).alloc _⟩

theorem drop_nt (v : Value) (w : World) (h : NoTab w v) (a0 a1 a4 : Int) (s : ByteArray) (A : Option Addr) (n c : Nat) :
    Calls Try.prog 24 #[v, .agg #[.int .u8 a0, .int .i64 a1, .string s, .slice A n c, .int .i64 a4]] w fun e w' => e = .returned (.tuple #[.bool false, .int .i64 1]) ∧ Ex (fun _ => False) w w' := by
  have HN := Aside0.mk h
  clear h
  go_enter Try.func24, Try.ntmps24
  go_wp2_with fail
  refine (find_nt v undef _ (HN.out.alloc _) a0 a1 0 0 a4 s A n c).mono ?_
  rintro e w1 ⟨rfl, hx⟩
  have HX := Aside0.mk (((Ex.refl (fun _ => False) w).alloc _).trans hx (fun _ h => h.elim))
  clear hx
  go_wp2
  go_ret2
  exact ⟨rfl, HX.out⟩

theorem get_nt (v : Value) (w : World) (h : NoTab w v) (a0 a1 a4 : Int) (s : ByteArray) (A : Option Addr) (n c : Nat) :
    Calls Try.prog 19 #[v, .agg #[.int .u8 a0, .int .i64 a1, .string s, .slice A n c, .int .i64 a4]] w fun e w' => e = .returned (.tuple #[zval, .bool false, .int .i64 1]) ∧ Ex (fun _ => False) w w' := by
  have HN := Aside0.mk h
  clear h
  go_enter Try.func19, Try.ntmps19
  go_wp2_with fail
  refine (find_nt v undef _ ((HN.out.alloc _).alloc _) a0 a1 0 0 a4 s A n c).mono ?_
  rintro e w1 ⟨rfl, hx1⟩
  have HB1 := Aside0.mk (show w1.heap[w.heap.size + 1]? = some (.cells #[.int .u8 0, .int .i64 0, .string ⟨#[]⟩, .slice none 0 0, .int .i64 0] 27 (0, 0)) from hx1.blk (blk_new2 w _ _) (fun h => h))
  have HX1 := Aside0.mk ((((Ex.refl (fun _ => False) w).alloc _).alloc _).trans hx1 (fun _ h => h.elim))
  clear hx1
  have bc0 := (blk_cell HB1.out 0).trans rfl
  have bc1 := (blk_cell HB1.out 1).trans rfl
  have bc2 := (blk_cell HB1.out 2).trans rfl
  have bc3 := (blk_cell HB1.out 3).trans rfl
  have bc4 := (blk_cell HB1.out 4).trans rfl
  have bf0 := blk_frozen HB1.out 0
  have bf1 := blk_frozen HB1.out 1
  have bf2 := blk_frozen HB1.out 2
  have bf3 := blk_frozen HB1.out 3
  have bf4 := blk_frozen HB1.out 4
  have bl := lt_of_blk HB1.out
  go_wp2_with fail
  refine bodyPost_ret (results_row_tmp2 rfl _ _ (w.heap.size + 1) 27 _ (0, 0) _ rfl (put27 HB1.out rfl _ _ _ _ _) Try.underlying27 rfl size27) rfl ?_
  exact ⟨rfl, ex_put27 HX1.out (.inr (by omega)) _ _ _ _ _⟩

theorem put_nt (v : Value) (w : World) (h : NoTab w v) (a0 a1 a4 : Int) (s : ByteArray) (A : Option Addr) (n c : Nat) (b0 b1 b4 : Int) (t : ByteArray) (B : Option Addr) (m d : Nat) :
    Calls Try.prog 15 #[v, .agg #[.int .u8 a0, .int .i64 a1, .string s, .slice A n c, .int .i64 a4], .agg #[.int .u8 b0, .int .i64 b1, .string t, .slice B m d, .int .i64 b4]] w fun e w' => e = .returned (.tuple #[zval, .bool false, .int .i64 1]) ∧ Ex (fun _ => False) w w' := by
  have HN := Aside0.mk h
  clear h
  go_enter Try.func15, Try.ntmps15
  go_wp2_with fail
  refine (none_nt v _ (((HN.out.alloc _).alloc _).alloc _)).mono ?_
  rintro e w1 ⟨rfl, rfl⟩
  go_wp2_with fail
  refine bodyPost_ret (results_row_tmp2 rfl _ _ (w.heap.size + 1 + 1) 27 _ (0, 0) _ rfl (blk_new3 _ _ _ _) Try.underlying27 rfl size27) rfl ?_
  exact ⟨rfl, (((Ex.refl _ _).alloc _).alloc _).alloc _⟩

theorem len_nt (v : Value) (w : World) (h : NoTab w v) : Calls Try.prog 17 #[v] w fun e w' => e = .returned (.int .i64 0) ∧ w' = w := by
  have HN := Aside0.mk h
  clear h
  go_enter Try.func17, Try.ntmps17
  go_wp2_with fail
  refine (none_nt v _ HN.out).mono ?_
  rintro e w1 ⟨rfl, rfl⟩
  go_wp2
  go_ret
  exact ⟨rfl, rfl⟩

theorem copy_nt (v : Value) (w : World) (h : NoTab w v) : Calls Try.prog 20 #[v] w fun e w' => e = .returned (.pointer none) ∧ w' = w := by
  have HN := Aside0.mk h
  clear h
  go_enter Try.func20, Try.ntmps20
  go_wp2_with fail
  refine (none_nt v _ HN.out).mono ?_
  rintro e w1 ⟨rfl, rfl⟩
  go_wp2
  go_ret
  exact ⟨rfl, rfl⟩

/-- All: the iterator, and the block that it has captured -/
theorem all_calls (v : Value) (w : World) (hv : v.oneCell' = true) : Calls Try.prog 25 #[v] w fun e w' => e = .returned (.func (.func 48) #[] #[.pointer (some ⟨w.heap.size, 0, none⟩)]) ∧ w' = w.alloc (.cells #[v] 39) := by
  have hmf : ∀ (fn : Fn) (first cap : Array Value) (w : World), (Instr.makeFunc fn first cap).run Try.prog w = .ok (.func fn first cap) w := fun _ _ _ _ => rfl
  go_enter Try.func25, Try.ntmps25
  go_wp2
  go_ret
  exact ⟨rfl, rfl⟩

end Go.Proofs.Ythkemcekcfccpaa.PBrandCompares

namespace Go.Proofs.Ythkemcekcfccpaa.GBrandCompares
open Go.RowKit
set_option linter.unusedVariables false
section
variable {P : Program}
theorem calls_of_wp_marks {f : FuncId} {fn : Func} {c : Code} {args : Array Value} {w : World} {R : Ending → World → Prop} (hf : P.funcs[f]? = some fn) (hb : fn.body = some c)
    (h : c.wp P (bodyPostM Fence.wide 0 P fn R) { tmps := args ++ Array.replicate (fn.ntmps - args.size) undef, defers := [] } w) : Calls P f args w R :=
  callsIn_wide.1 (callsIn_of_wp_marks (F := Fence.wide) (n := 0) hf hb trivial (wpIn_wide.2 h) rfl)

theorem wp_range_none {g : Operand} {ps : Array Tmp} {assign body : Code} {Q : Exit → Act → World → Prop} {a : Act} {w : World} {gf : Nat} {lb : Array Value}
    (hg : a.eval g = .func (.func gf) #[] lb) (eg : ∀ args w, (callFunc gf args).run P w = .ok (.enter gf args) w)
    (hcall : ∀ (l : Nat) (W : World), Below w.heap.size w W → Calls P gf (#[.func (.yield l) #[] #[]] ++ lb) W fun e W' => (∃ v, e = .returned v) ∧ W' = W)
    (hdone : ∀ (D : Nat) (W : World), w.heap.size ≤ D → Below w.heap.size w W → W.heap[D]? = some (.deferred (some [])) → Q .normal { a with defers := { target := .collected D, args := #[] } :: a.defers } W) :
    (Code.rangeFunc g ps assign body).wp P Q a w := by
  refine (wpIn_wide (n := 1)).1 (wpIn_rangeFunc_ownG (α := Empty) (F := Fence.wide) (n := 1) rfl (Nat.le_refl _) hg trivial eg (encs := fun x => x.elim) (Kp := fun _ _ => True) (S := fun xs => xs = []) (Sp := fun _ => False) (N := 0) (w0 := w)
    ?_ (fun _ _ => trivial) (fun _ _ _ _ _ _ _ _ => trivial) (Below.refl _ _) (fun x => x.elim)
    (fun _ W => Below w.heap.size w W) (fun _ _ _ => False) (ownFrom_below (Nat.le_refl _) (Nat.le_refl _)) (fun _ => ?_) (Below.refl _ _) (fun x => x.elim) (fun _ x => x.elim) (fun _ _ x => x.elim) ?_ ?_)
  · intro l J Jx W hW _ _ _ h0
    refine callsIn_wide.2 ((hcall l W hW).mono ?_)
    rintro e W' ⟨he, rfl⟩
    exact ⟨he, .inl ⟨[], rfl, h0⟩⟩
  · intro s W W' row hs
    exact hs.elim
  · intro D xs W hD hxs hI hK
    exact hdone D W hD hI hK
  · intro D c pre W _ h
    exact h.elim
end
end Go.Proofs.Ythkemcekcfccpaa.GBrandCompares

namespace Go.Proofs.Ythkemcekcfccpaa.PBrandCompares
open Go.RowKit Go.Proofs.YthkemcekcfccpaaW.PrintWords Go.Proofs.YthkemcekcfccpaaW.PrintLast Go.Proofs.YthkemcekcfccpaaW.PrintMore
open Go.Proofs.Ythkemcekcfccpaa.GBrandCompares
set_option linter.unusedVariables false
set_option linter.unusedSimpArgs false

theorem put_new_end {x y : S27} {g mb ob : Nat} {T : Nat → Prop} {rows : List Row} {came : Nat} {m : Mk} {w w3 w4 w6 w7 w9 w10 w11 w12 : World} {A1 B1 : Option Addr} {c1 d1 n8 cl cl2 : Nat} {es es2 : Array MapEntry} {t1 : TypeId} {u1 : Value} {cs : Array Value}
    (HT : Tab w g mb ob T rows came) (HX3 : Ex (fun _ => False) w w3) (HX4 : Ex (fun b => b = g) w3 w4) (h34 : w3.heap.size < w4.heap.size) (HX46 : Ex (fun b => b = w3.heap.size) w4 w6) (HX67 : Ex (fun b => b = ob) w6 w7)
    (HX79 : Ex (fun b => b = w.heap.size + 1 + 1) w7 w9) (HX910 : Ex (fun b => b = w3.heap.size) w9 w10) (HX1011 : Ex (fun b => b = mb) w10 w11) (HX1112 : Ex (fun b => b = w.heap.size + 1 + 1) w11 w12) (hb : w.heap.size + 1 + 1 < w3.heap.size)
    (HG11 : w11.heap[g]? = some (.cells cs 66 (0, 0))) (hcs : cs = #[.map (some mb), .map (some ob), .int .i64 ((came : Int) + 1)])
    (HMB11 : w11.heap[mb]? = some (.map (es.push { key := .iface t1 u1, val := .agg #[.int .u8 x.f0, .int .i64 x.f1, .string x.f2, .slice A1 x.f3.length c1, .int .i64 x.f4, .int .u8 y.f0, .int .i64 y.f1, .string y.f2, .slice B1 y.f3.length d1, .int .i64 y.f4, .int .i64 ((came : Int) + 1)], born := cl }) (cl + 1)))
    (HOB11 : w11.heap[ob]? = some (.map (es2.push { key := .int .i64 ((came : Int) + 1), val := .iface t1 u1, born := cl2 }) (cl2 + 1)))
    (HES : es.toList = rows.map Row.e1) (HES2 : es2.toList = rows.map Row.e2) (HU : m.val = .iface t1 u1) (H1 : MarkOf x m) (HKEY : Key m) (HP : posMk m (rows.map (·.m)) = none) (HM : mayV x = true) (HN : mayV y = true) (HL1 : x.f3.length ≤ c1) (HL2 : y.f3.length ≤ d1)
    (HR9 : Kd.R k27 27 w9 w4.drew.heap.size (fun b => w4.heap.size ≤ b) (.slice A1 x.f3.length c1) x.f3) (HR29 : Kd.R k27 27 w9 n8 (fun b => n8 ≤ b) (.slice B1 y.f3.length d1) y.f3) (h8 : w7.heap.size ≤ n8) :
    Ex (fun b => b = g ∨ b = mb ∨ b = ob) w w12 ∧ ∃ r : Row, r.m = m ∧ r.k = x ∧ r.v = y ∧ r.n = came + 1 ∧ Tab w12 g mb ob (fun b => T b ∨ w.heap.size ≤ b) (rows ++ [r]) (came + 1) := by
  have hg : g < w.heap.size := lt_of_blk HT.hg
  have hmb : mb < w.heap.size := let ⟨_, _, h, _⟩ := HT.hm; lt_of_blk h
  have hob : ob < w.heap.size := let ⟨_, _, h, _⟩ := HT.ho; lt_of_blk h
  have h3 := HX3.size
  have h4 := HX4.size
  have h6 := HX46.size
  have h7 := HX67.size
  have h9 := HX79.size
  have h10 := HX910.size
  have h11 := HX1011.size
  have X4 : Ex (fun b => b = g ∨ b = mb ∨ b = ob) w w4 := (HX3.mono (fun _ h => h.elim)).trans HX4 (fun b hb => .inl (.inl hb))
  have X6 := X4.trans HX46 (fun b hb => .inr (by rw [hb]; exact h3))
  have X7 := X6.trans HX67 (fun b hb => .inl (.inr (.inr hb)))
  have X9 := X7.trans HX79 (fun b hb => .inr (by omega))
  have X10 := X9.trans HX910 (fun b hb => .inr (by omega))
  have X11 := X10.trans HX1011 (fun b hb => .inl (.inr (.inl hb)))
  have X12 := X11.trans HX1112 (fun b hb => .inr (by omega))
  have X912 : Ex (fun b => b = w3.heap.size ∨ b = mb ∨ b = w.heap.size + 1 + 1) w9 w12 := ((HX910.mono (fun _ h => .inl h)).trans HX1011 (fun b hb => .inl (.inr (.inl hb)))).trans HX1112 (fun b hb => .inl (.inr (.inr hb)))
  have hgm : g ≠ mb := by
    rintro rfl
    obtain ⟨_, _, h, _⟩ := HT.hm
    exact absurd (h.symm.trans HT.hg) (by simp)
  have hgo : g ≠ ob := by
    rintro rfl
    obtain ⟨_, _, h, _⟩ := HT.ho
    exact absurd (h.symm.trans HT.hg) (by simp)
  have hR1 : Kd.F k27 w12 (fun b => (T b ∨ w.heap.size ≤ b) ∧ b ≠ g ∧ b ≠ mb ∧ b ≠ ob) A1 x.f3.length x.f3 :=
    Kd.F_mono (ex_F X912 (R_F HR9) (fun b hb => by omega)) (fun b hb => ⟨.inr (by omega), by omega, by omega, by omega⟩)
  have hR2 : Kd.F k27 w12 (fun b => (T b ∨ w.heap.size ≤ b) ∧ b ≠ g ∧ b ≠ mb ∧ b ≠ ob) B1 y.f3.length y.f3 :=
    Kd.F_mono (ex_F X912 (R_F HR29) (fun b hb => by omega)) (fun b hb => ⟨.inr (by omega), by omega, by omega, by omega⟩)
  refine ⟨X12, ⟨m, x, y, A1, c1, B1, d1, came + 1, cl, cl2⟩, rfl, rfl, rfl, rfl, ?_⟩
  have hcast : (((came + 1 : Nat)) : Int) = (came : Int) + 1 := by omega
  refine { hg := ?_, hm := ?_, ho := ?_, good := ?_, tg := .inl HT.tg, tm := .inl HT.tm, tb := .inl HT.tb, ne := HT.ne, nums := ?_, marks := ?_, cames := ?_ }
  · rw [hcast, ← hcs]
    exact HX1112.blk HG11 (show ¬ g = w.heap.size + 1 + 1 by omega)
  · refine ⟨_, _, HX1112.blk HMB11 (show ¬ mb = w.heap.size + 1 + 1 by omega), ?_⟩
    rw [Array.toList_push, HES, List.map_append, List.map_singleton, Row.e1, Row.val, hcast, HU]
  · refine ⟨_, _, HX1112.blk HOB11 (show ¬ ob = w.heap.size + 1 + 1 by omega), ?_⟩
    rw [Array.toList_push, HES2, List.map_append, List.map_singleton, Row.e2, hcast, HU]
  · intro r hr
    rcases List.mem_append.1 hr with hr | hr
    · have h := HT.good r hr
      refine { h with fk := ?_, fv := ?_ }
      · exact Kd.F_mono (ex_F X12 (Kd.F_bound h.fk) (fun b hb => by have := hb.1; omega)) (fun b hb => ⟨.inl hb.1.1, hb.1.2⟩)
      · exact Kd.F_mono (ex_F X12 (Kd.F_bound h.fv) (fun b hb => by have := hb.1; omega)) (fun b hb => ⟨.inl hb.1.1, hb.1.2⟩)
    · rw [List.mem_singleton] at hr
      subst hr
      exact ⟨H1, HKEY, HM, HN, HL1, HL2, hR1, hR2⟩
  · intro r hr
    rcases List.mem_append.1 hr with hr | hr
    · have := HT.nums r hr
      omega
    · rw [List.mem_singleton] at hr
      subst hr
      show 1 ≤ came + 1 ∧ came + 1 ≤ came + 1
      omega
  · rw [List.pairwise_append]
    refine ⟨HT.marks, by simp, ?_⟩
    intro r hr s hs
    rw [List.mem_singleton] at hs
    subst hs
    exact posMk_none HKEY.1 HP r.m (List.mem_map.2 ⟨r, hr, rfl⟩)
  · rw [List.pairwise_append]
    refine ⟨HT.cames, by simp, ?_⟩
    intro r hr s hs
    rw [List.mem_singleton] at hs
    subst hs
    have := HT.nums r hr
    show r.n ≠ came + 1
    omega

theorem modify_list {es : Array MapEntry} {rows : List Row} {j : Nat} {r r' : Row} {f : MapEntry → MapEntry} (h : es.toList = rows.map Row.e1) (hr : rows[j]? = some r) (hf : f r.e1 = r'.e1) : (es.modify j f).toList = (rows.set j r').map Row.e1 := by
  apply List.ext_getElem?
  intro i
  have hi := congrArg (fun l => l[i]?) h
  simp only [Array.getElem?_toList, List.getElem?_map] at hi
  rw [Array.getElem?_toList, Array.getElem?_modify, List.getElem?_map, List.getElem?_set]
  by_cases hij : j = i
  · subst hij
    rw [if_pos rfl, if_pos rfl, hi, hr]
    have : j < rows.length := (List.getElem?_eq_some_iff.1 hr).1
    simp [this, hf]
  · rw [if_neg hij, if_neg hij, hi]

theorem under_row {es : Array MapEntry} {rows : List Row} {j : Nat} {r : Row} {z : Value} (h : es.toList = rows.map Row.e1) (hr : rows[j]? = some r) : under es z (some j) = (r.val, true) := by
  have hj := congrArg (fun l => l[j]?) h
  simp only [Array.getElem?_toList, List.getElem?_map, hr, Option.map_some] at hj
  simp [under, hj, Row.e1]

theorem pairwise_set {α : Type} {R : α → α → Prop} (hs : ∀ a b, R a b → R b a) {l : List α} {j : Nat} {r r' : α} (h : l.Pairwise R) (hr : l[j]? = some r) (h1 : ∀ s, R r s → R r' s) : (l.set j r').Pairwise R := by
  induction l generalizing j with
  | nil => simp
  | cons a l ih =>
    rw [List.pairwise_cons] at h
    cases j with
    | zero =>
      simp only [List.getElem?_cons_zero, Option.some.injEq] at hr
      subst hr
      simp only [List.set_cons_zero, List.pairwise_cons]
      exact ⟨fun s hs => h1 s (h.1 s hs), h.2⟩
    | succ j =>
      simp only [List.getElem?_cons_succ] at hr
      simp only [List.set_cons_succ, List.pairwise_cons]
      refine ⟨fun s hs' => ?_, ih h.2 hr⟩
      rcases List.mem_or_eq_of_mem_set hs' with h2 | rfl
      · exact h.1 s h2
      · exact hs _ _ (h1 _ (hs _ _ (h.1 r (List.mem_of_getElem? hr))))

/-- the row whose value is turned -/
def Row.turn (r : Row) (y : S27) (B : Option Addr) (d : Nat) : Row := { r with v := y, B := B, cb := d }

theorem put_old_end {y : S27} {g mb ob : Nat} {T : Nat → Prop} {rows : List Row} {came j : Nat} {r : Row} {m : Mk} {w w3 w7 w8 w9 w10 : World} {B1 : Option Addr} {d1 n8 cl : Nat} {es : Array MapEntry} {t1 : TypeId} {u1 : Value}
    (HT : Tab w g mb ob T rows came) (HX3 : Ex (fun _ => False) w w3) (HX37 : Ex (fun b => b = w.heap.size + 1 + 1) w3 w7) (HX78 : Ex (fun b => b = w3.heap.size) w7 w8) (HX89 : Ex (fun b => b = mb) w8 w9) (HX910 : Ex (fun b => b = w.heap.size + 1 + 1) w9 w10) (hb : w.heap.size + 1 + 1 < w3.heap.size)
    (HR : rows[j]? = some r) (HRM : r.m = m)
    (HMB9 : w9.heap[mb]? = some (.map (es.modify j fun e => { e with key := .iface t1 u1, val := .agg #[.int .u8 r.k.f0, .int .i64 r.k.f1, .string r.k.f2, .slice r.A r.k.f3.length r.ca, .int .i64 r.k.f4, .int .u8 y.f0, .int .i64 y.f1, .string y.f2, .slice B1 y.f3.length d1, .int .i64 y.f4, .int .i64 r.n] }) cl))
    (HES : es.toList = rows.map Row.e1) (HU : m.val = .iface t1 u1) (HN : mayV y = true) (HL2 : y.f3.length ≤ d1) (HR29 : Kd.R k27 27 w7 n8 (fun b => n8 ≤ b) (.slice B1 y.f3.length d1) y.f3) (h8 : w3.heap.size < n8) :
    Ex (fun b => b = g ∨ b = mb ∨ b = ob) w w10 ∧ Kd.F k27 w10 T r.B r.v.f3.length r.v.f3 ∧ ∃ B d, Tab w10 g mb ob (fun b => T b ∨ w.heap.size ≤ b) (rows.set j (r.turn y B d)) came := by
  have hg : g < w.heap.size := lt_of_blk HT.hg
  have hmb : mb < w.heap.size := let ⟨_, _, h, _⟩ := HT.hm; lt_of_blk h
  have hob : ob < w.heap.size := let ⟨_, _, h, _⟩ := HT.ho; lt_of_blk h
  have h3 := HX3.size
  have hgm : g ≠ mb := by
    rintro rfl
    obtain ⟨_, _, h, _⟩ := HT.hm
    exact absurd (h.symm.trans HT.hg) (by simp)
  have X7 : Ex (fun b => b = mb) w w7 := (HX3.mono (fun _ h => h.elim)).trans HX37 (fun b hb => .inr (by omega))
  have X8 := X7.trans HX78 (fun b hb => .inr (by omega))
  have X9 := X8.trans HX89 (fun b hb => .inl hb)
  have X10 := X9.trans HX910 (fun b hb => .inr (by omega))
  have X710 : Ex (fun b => b = w3.heap.size ∨ b = mb ∨ b = w.heap.size + 1 + 1) w7 w10 := ((HX78.mono (fun _ h => .inl h)).trans HX89 (fun b hb => .inl (.inr (.inl hb)))).trans HX910 (fun b hb => .inl (.inr (.inr hb)))
  have hgood := HT.good r (List.mem_of_getElem? HR)
  have hj : j < rows.length := (List.getElem?_eq_some_iff.1 HR).1
  refine ⟨X10.mono (fun b hb => .inr (.inl hb)), Kd.F_mono (ex_F X10 hgood.fv (fun b hb => hb.2.2.1)) (fun b hb => hb.1), B1, d1, ?_⟩
  have hR2 : Kd.F k27 w10 (fun b => (T b ∨ w.heap.size ≤ b) ∧ b ≠ g ∧ b ≠ mb ∧ b ≠ ob) B1 y.f3.length y.f3 :=
    Kd.F_mono (ex_F X710 (R_F HR29) (fun b hb => by omega)) (fun b hb => ⟨.inr (by omega), by omega, by omega, by omega⟩)
  have hsame : ∀ s : Row, s.Good w (fun b => T b ∧ b ≠ g ∧ b ≠ mb ∧ b ≠ ob) → s.Good w10 (fun b => (T b ∨ w.heap.size ≤ b) ∧ b ≠ g ∧ b ≠ mb ∧ b ≠ ob) := fun s h =>
    (h.ex X10 (fun b hb => hb.2.2.1)).mono (fun b hb => ⟨.inl hb.1, hb.2⟩)
  refine { hg := X10.blk HT.hg hgm, hm := ⟨_, _, HX910.blk HMB9 (show ¬ mb = w.heap.size + 1 + 1 by omega), modify_list HES HR ?_⟩, ho := ?_, good := ?_, tg := .inl HT.tg, tm := .inl HT.tm, tb := .inl HT.tb, ne := HT.ne, nums := ?_, marks := ?_, cames := ?_ }
  · simp only [Row.e1, Row.val, Row.turn, HRM, HU]
  · obtain ⟨es', c', h1, h2⟩ := HT.ho
    refine ⟨es', c', X10.blk h1 (Ne.symm HT.ne), ?_⟩
    rw [h2]
    apply List.ext_getElem?
    intro i
    rw [List.getElem?_map, List.getElem?_map, List.getElem?_set]
    by_cases hij : j = i
    · subst hij
      rw [if_pos rfl, if_pos hj, HR]
      rfl
    · rw [if_neg hij]
  · intro s hs
    rcases List.mem_or_eq_of_mem_set hs with h | rfl
    · exact hsame s (HT.good s h)
    · have h := hsame r hgood
      exact { h with mayv := HN, lv := HL2, fv := hR2 }
  · intro s hs
    rcases List.mem_or_eq_of_mem_set hs with h | rfl
    · exact HT.nums s h
    · exact HT.nums r (List.mem_of_getElem? HR)
  · exact pairwise_set (fun _ _ h => Ne.symm h) HT.marks HR (fun s h => h)
  · exact pairwise_set (fun _ _ h => Ne.symm h) HT.cames HR (fun s h => h)

end Go.Proofs.Ythkemcekcfccpaa.PBrandCompares

namespace Go.Proofs.Ythkemcekcfccpaa.PBrandCompares
open Go.RowKit Go.Proofs.YthkemcekcfccpaaW.PrintWords Go.Proofs.YthkemcekcfccpaaW.PrintLast Go.Proofs.YthkemcekcfccpaaW.PrintMore
open Go.Proofs.Ythkemcekcfccpaa.GBrandCompares
set_option linter.unusedVariables false
set_option linter.unusedSimpArgs false

set_option maxRecDepth 100000 in
set_option maxHeartbeats 4000000 in
theorem put_old (x y : S27) (A B : Option Addr) (c d g mb ob : Nat) (T ok : Nat → Prop) (rows : List Row) (came : Nat) (w : World) (h : Tab w g mb ob T rows came) (hcame : came < 1000000000) (hc : x.f3.length ≤ c) (hd : y.f3.length ≤ d) (hF : Kd.F k27 w ok A x.f3.length x.f3) (hF2 : Kd.F k27 w ok B y.f3.length y.f3) (hok : ∀ b, ok b → ¬ T b) (hm : mayV x = true) (hn : mayV y = true) (m : Mk) (hmk : ∀ m2, MarkOf x m2 → m2 = m) (hkey : Key m) (j : Nat) (r : Row) (hp : posMk m (rows.map (·.m)) = some j) (hr : rows[j]? = some r) (hrm : r.m = m) : PUT x y A B c d g w fun e w' => e = .returned (.tuple #[.agg #[.int .u8 r.v.f0, .int .i64 r.v.f1, .string r.v.f2, .slice r.B r.v.f3.length r.cb, .int .i64 r.v.f4], .bool true, .int .i64 0]) ∧ Ex (fun b => b = g ∨ b = mb ∨ b = ob) w w' ∧ Kd.F k27 w' T r.B r.v.f3.length r.v.f3 ∧ ∃ B d, Tab w' g mb ob (fun b => T b ∨ w.heap.size ≤ b) (rows.set j (r.turn y B d)) came := by
  have HT := Aside0.mk h
  have HG := Aside0.mk h.hg
  have HF := Aside0.mk (Kd.F_bound hF)
  have HF2 := Aside0.mk (Kd.F_bound hF2)
  have HM := Aside0.mk hm
  have HN := Aside0.mk hn
  have HMK := Aside0.mk hmk
  have HKEY := Aside0.mk hkey
  have HOK := Aside0.mk hok
  have HC := Aside0.mk (And.intro hc hd)
  have HP := Aside0.mk hp
  have HRW := Aside0.mk (And.intro hr hrm)
  obtain ⟨i0, hi0, hz0, _, _⟩ := info_parts info78
  have HI := Aside0.mk (And.intro hi0 hz0)
  clear h hF hm hF2 hn hmk hkey hp hi0 hz0 hok hc hd hr hrm
  unfold PUT
  go_enter Try.func15, Try.ntmps15
  go_wp2_with fail
  refine (none_no g mb _ _ _ (blk_alloc (blk_alloc (blk_alloc HG.out _) _) _)).mono ?_
  rintro e w1 ⟨rfl, rfl⟩
  go_wp2_with fail
  refine (may_calls x A c _ _ (Kd.F_alloc (Kd.F_alloc (Kd.F_alloc HF.out _) _) _)).mono ?_
  rintro e w1 ⟨rfl, hx1⟩
  have hm' := HM.out
  rw [hm']
  clear hm'
  have HG1 := Aside0.mk (hx1.blk (blk_alloc (blk_alloc (blk_alloc HG.out _) _) _) (fun h => h))
  have HK1 := Aside0.mk (hx1.blk (blk_alloc (blk_alloc (blk_new1 w _) _) _) (fun h => h))
  have HV1 := Aside0.mk (hx1.blk (blk_alloc (blk_new2 w _ _) _) (fun h => h))
  have HB1 := Aside0.mk (show w1.heap[w.heap.size + 1 + 1]? = some (.cells #[.int .u8 0, .int .i64 0, .string ⟨#[]⟩, .slice none 0 0, .int .i64 0] 27 (0, 0)) from hx1.blk (blk_new3 w _ _ _) (fun h => h))
  have HX1 := Aside0.mk (((((Ex.refl (fun _ => False) w).alloc _).alloc _).alloc _).trans hx1 (fun _ h => h.elim))
  clear hx1
  have vc0 := (blk_cell HV1.out 0).trans rfl
  have vc1 := (blk_cell HV1.out 1).trans rfl
  have vc2 := (blk_cell HV1.out 2).trans rfl
  have vc3 := (blk_cell HV1.out 3).trans rfl
  have vc4 := (blk_cell HV1.out 4).trans rfl
  have vf0 := blk_frozen HV1.out 0
  have vf1 := blk_frozen HV1.out 1
  have vf2 := blk_frozen HV1.out 2
  have vf3 := blk_frozen HV1.out 3
  have vf4 := blk_frozen HV1.out 4
  have vl := lt_of_blk HV1.out
  go_wp2_with fail
  refine (may_calls y B d _ _ (ex_F HX1.out HF2.out (fun _ _ h => h))).mono ?_
  rintro e w2 ⟨rfl, hx2⟩
  have hm' := HN.out
  rw [hm']
  clear hm'
  have HG2 := Aside0.mk (hx2.blk HG1.out (fun h => h))
  have HK2 := Aside0.mk (hx2.blk HK1.out (fun h => h))
  have HV2 := Aside0.mk (hx2.blk HV1.out (fun h => h))
  have HB2 := Aside0.mk (hx2.blk HB1.out (fun h => h))
  have HX2 := Aside0.mk (HX1.out.trans hx2 (fun _ h => h.elim))
  clear hx2
  clear vc0 vc1 vc2 vc3 vc4 vf0 vf1 vf2 vf3 vf4 vl
  have kc0 := (blk_cell HK2.out 0).trans rfl
  have kc1 := (blk_cell HK2.out 1).trans rfl
  have kc2 := (blk_cell HK2.out 2).trans rfl
  have kc3 := (blk_cell HK2.out 3).trans rfl
  have kc4 := (blk_cell HK2.out 4).trans rfl
  have kf0 := blk_frozen HK2.out 0
  have kf1 := blk_frozen HK2.out 1
  have kf2 := blk_frozen HK2.out 2
  have kf3 := blk_frozen HK2.out 3
  have kf4 := blk_frozen HK2.out 4
  have kl := lt_of_blk HK2.out
  go_wp2_with fail
  refine (find_key' x A c g mb _ _ _ _ HG2.out (ex_F HX2.out HF.out (fun _ _ h => h)) HM.out).mono ?_
  rintro e w3 ⟨m2, h1, h2, hx3, rfl⟩
  have hm2 := HMK.out m2 h1
  subst hm2
  have hk' := HKEY.out.1
  rw [hk']
  clear hk' h2
  have H1 := Aside0.mk h1
  clear h1
  have HG3 := Aside0.mk (hx3.blk HG2.out (fun h => h))
  have HK3 := Aside0.mk (hx3.blk HK2.out (fun h => h))
  have HV3 := Aside0.mk (hx3.blk HV2.out (fun h => h))
  have HB3 := Aside0.mk (hx3.blk HB2.out (fun h => h))
  have HX3 := Aside0.mk (HX2.out.trans hx3 (fun _ h => h.elim))
  have HT3 := Aside0.mk (HT.out.ex0 HX3.out)
  have HF3 := Aside0.mk (ex_F HX3.out HF.out (fun _ _ h => h))
  have HF23 := Aside0.mk (ex_F HX3.out HF2.out (fun _ _ h => h))
  clear hx3
  clear kc0 kc1 kc2 kc3 kc4 kf0 kf1 kf2 kf3 kf4 kl
  obtain ⟨es, cl, hmb, hes⟩ := HT3.out.hm
  have hlk := run_lookup 63 78 Try.underlying63 HI.out.1 HI.out.2 hmb HKEY.out (HT3.out.key_all) (HT3.out.keys_map hes) true
  rw [HP.out, under_row hes HRW.out.1] at hlk
  have hlk' : (Instr.lookup 63 (.map (some mb)) m2.val true).run Try.prog w3 = .ok (.tuple #[.agg #[.int .u8 r.k.f0, .int .i64 r.k.f1, .string r.k.f2, .slice r.A r.k.f3.length r.ca, .int .i64 r.k.f4, .int .u8 r.v.f0, .int .i64 r.v.f1, .string r.v.f2, .slice r.B r.v.f3.length r.cb, .int .i64 r.v.f4, .int .i64 r.n], .bool true]) w3 := hlk
  have HMB3 := Aside0.mk hmb
  have HES := Aside0.mk hes
  clear hlk hmb hes
  obtain ⟨t1, u1, hu1⟩ := m2.val_iface
  rw [hu1]
  rw [hu1] at hlk'
  have HU := Aside0.mk hu1
  clear hu1
  have gc0 := (blk_cell HG3.out 0).trans rfl
  have gc1 := (blk_cell HG3.out 1).trans rfl
  have gc2 := (blk_cell HG3.out 2).trans rfl
  have gf0 := blk_frozen HG3.out 0
  have gf1 := blk_frozen HG3.out 1
  have gf2 := blk_frozen HG3.out 2
  have gl := lt_of_blk HG3.out
  have bc0 := (blk_cell HB3.out 0).trans rfl
  have bc1 := (blk_cell HB3.out 1).trans rfl
  have bc2 := (blk_cell HB3.out 2).trans rfl
  have bc3 := (blk_cell HB3.out 3).trans rfl
  have bc4 := (blk_cell HB3.out 4).trans rfl
  have bf0 := blk_frozen HB3.out 0
  have bf1 := blk_frozen HB3.out 1
  have bf2 := blk_frozen HB3.out 2
  have bf3 := blk_frozen HB3.out 3
  have bf4 := blk_frozen HB3.out 4
  have bl := lt_of_blk HB3.out
  have kc0 := (blk_cell HK3.out 0).trans rfl
  have kc1 := (blk_cell HK3.out 1).trans rfl
  have kc2 := (blk_cell HK3.out 2).trans rfl
  have kc3 := (blk_cell HK3.out 3).trans rfl
  have kc4 := (blk_cell HK3.out 4).trans rfl
  have kf0 := blk_frozen HK3.out 0
  have kf1 := blk_frozen HK3.out 1
  have kf2 := blk_frozen HK3.out 2
  have kf3 := blk_frozen HK3.out 3
  have kf4 := blk_frozen HK3.out 4
  have kl := lt_of_blk HK3.out
  have vc0 := (blk_cell HV3.out 0).trans rfl
  have vc1 := (blk_cell HV3.out 1).trans rfl
  have vc2 := (blk_cell HV3.out 2).trans rfl
  have vc3 := (blk_cell HV3.out 3).trans rfl
  have vc4 := (blk_cell HV3.out 4).trans rfl
  have vf0 := blk_frozen HV3.out 0
  have vf1 := blk_frozen HV3.out 1
  have vf2 := blk_frozen HV3.out 2
  have vf3 := blk_frozen HV3.out 3
  have vf4 := blk_frozen HV3.out 4
  have vl := lt_of_blk HV3.out
  have hg0 : g < w.heap.size := lt_of_blk HG.out
  go_wp2_with fail
  have HX35 := Aside0.mk ((ex_put27 (Ex.refl (fun b => b = w.heap.size + 1 + 1) w3) (.inl rfl) (.int .u8 r.v.f0) (.int .i64 r.v.f1) (.string r.v.f2) (.slice r.B r.v.f3.length r.cb) (.int .i64 r.v.f4)).alloc (.cells #[.int .u8 r.k.f0, .int .i64 r.k.f1, .string r.k.f2, .slice r.A r.k.f3.length r.ca, .int .i64 r.k.f4, .int .u8 r.v.f0, .int .i64 r.v.f1, .string r.v.f2, .slice r.B r.v.f3.length r.cb, .int .i64 r.v.f4, .int .i64 r.n] 78))
  have HP5 := Aside0.mk (show ((((((w3.setCell ⟨w.heap.size + 1 + 1, 0, none⟩ (.int .u8 r.v.f0)).setCell ⟨w.heap.size + 1 + 1, 1, none⟩ (.int .i64 r.v.f1)).setCell ⟨w.heap.size + 1 + 1, 2, none⟩ (.string r.v.f2)).setCell ⟨w.heap.size + 1 + 1, 3, none⟩ (.slice r.B r.v.f3.length r.cb)).setCell ⟨w.heap.size + 1 + 1, 4, none⟩ (.int .i64 r.v.f4)).alloc (.cells #[.int .u8 r.k.f0, .int .i64 r.k.f1, .string r.k.f2, .slice r.A r.k.f3.length r.ca, .int .i64 r.k.f4, .int .u8 r.v.f0, .int .i64 r.v.f1, .string r.v.f2, .slice r.B r.v.f3.length r.cb, .int .i64 r.v.f4, .int .i64 r.n] 78)).heap[w3.heap.size]? = some (.cells #[.int .u8 r.k.f0, .int .i64 r.k.f1, .string r.k.f2, .slice r.A r.k.f3.length r.ca, .int .i64 r.k.f4, .int .u8 r.v.f0, .int .i64 r.v.f1, .string r.v.f2, .slice r.B r.v.f3.length r.cb, .int .i64 r.v.f4, .int .i64 r.n] 78 (0, 0)) from by
    have h := blk_new1 (((((w3.setCell ⟨w.heap.size + 1 + 1, 0, none⟩ (.int .u8 r.v.f0)).setCell ⟨w.heap.size + 1 + 1, 1, none⟩ (.int .i64 r.v.f1)).setCell ⟨w.heap.size + 1 + 1, 2, none⟩ (.string r.v.f2)).setCell ⟨w.heap.size + 1 + 1, 3, none⟩ (.slice r.B r.v.f3.length r.cb)).setCell ⟨w.heap.size + 1 + 1, 4, none⟩ (.int .i64 r.v.f4)) (.cells #[.int .u8 r.k.f0, .int .i64 r.k.f1, .string r.k.f2, .slice r.A r.k.f3.length r.ca, .int .i64 r.k.f4, .int .u8 r.v.f0, .int .i64 r.v.f1, .string r.v.f2, .slice r.B r.v.f3.length r.cb, .int .i64 r.v.f4, .int .i64 r.n] 78)
    rw [show (((((w3.setCell ⟨w.heap.size + 1 + 1, 0, none⟩ (.int .u8 r.v.f0)).setCell ⟨w.heap.size + 1 + 1, 1, none⟩ (.int .i64 r.v.f1)).setCell ⟨w.heap.size + 1 + 1, 2, none⟩ (.string r.v.f2)).setCell ⟨w.heap.size + 1 + 1, 3, none⟩ (.slice r.B r.v.f3.length r.cb)).setCell ⟨w.heap.size + 1 + 1, 4, none⟩ (.int .i64 r.v.f4)).heap.size = w3.heap.size by simp [World.setCell]] at h
    exact h)
  have HB5 := Aside0.mk (blk_alloc (put27 HB3.out rfl (.int .u8 r.v.f0) (.int .i64 r.v.f1) (.string r.v.f2) (.slice r.B r.v.f3.length r.cb) (.int .i64 r.v.f4)) (.cells #[.int .u8 r.k.f0, .int .i64 r.k.f1, .string r.k.f2, .slice r.A r.k.f3.length r.ca, .int .i64 r.k.f4, .int .u8 r.v.f0, .int .i64 r.v.f1, .string r.v.f2, .slice r.B r.v.f3.length r.cb, .int .i64 r.v.f4, .int .i64 r.n] 78))
  refine (own_calls y B d _ (fun k => ok k ∧ k < w.heap.size) HC.out.2 (ex_F HX35.out HF23.out (fun b hb => show ¬ b = w.heap.size + 1 + 1 by have := hb.2; omega)) HN.out).mono ?_
  rintro e w7 ⟨v, rfl, B1, d1, rfl, l2, hR2, hx7⟩
  have HL2 := Aside0.mk l2
  have HX37 := Aside0.mk (HX35.out.trans hx7 (fun _ h => h.elim))
  have HB7 := Aside0.mk (hx7.blk HB5.out (fun h => h))
  have HP7 := Aside0.mk (hx7.blk HP5.out (fun h => h))
  have HR29 := Aside0.mk hR2
  have hs8 : w3.heap.size < (((((((w3.setCell ⟨w.heap.size + 1 + 1, 0, none⟩ (.int .u8 r.v.f0)).setCell ⟨w.heap.size + 1 + 1, 1, none⟩ (.int .i64 r.v.f1)).setCell ⟨w.heap.size + 1 + 1, 2, none⟩ (.string r.v.f2)).setCell ⟨w.heap.size + 1 + 1, 3, none⟩ (.slice r.B r.v.f3.length r.cb)).setCell ⟨w.heap.size + 1 + 1, 4, none⟩ (.int .i64 r.v.f4)).alloc (.cells #[.int .u8 r.k.f0, .int .i64 r.k.f1, .string r.k.f2, .slice r.A r.k.f3.length r.ca, .int .i64 r.k.f4, .int .u8 r.v.f0, .int .i64 r.v.f1, .string r.v.f2, .slice r.B r.v.f3.length r.cb, .int .i64 r.v.f4, .int .i64 r.n] 78))).heap.size := lt_of_blk HP5.out
  clear HX35 HB5 HP5 hx7 hR2 l2
  generalize ((((((w3.setCell ⟨w.heap.size + 1 + 1, 0, none⟩ (.int .u8 r.v.f0)).setCell ⟨w.heap.size + 1 + 1, 1, none⟩ (.int .i64 r.v.f1)).setCell ⟨w.heap.size + 1 + 1, 2, none⟩ (.string r.v.f2)).setCell ⟨w.heap.size + 1 + 1, 3, none⟩ (.slice r.B r.v.f3.length r.cb)).setCell ⟨w.heap.size + 1 + 1, 4, none⟩ (.int .i64 r.v.f4)).alloc (.cells #[.int .u8 r.k.f0, .int .i64 r.k.f1, .string r.k.f2, .slice r.A r.k.f3.length r.ca, .int .i64 r.k.f4, .int .u8 r.v.f0, .int .i64 r.v.f1, .string r.v.f2, .slice r.B r.v.f3.length r.cb, .int .i64 r.v.f4, .int .i64 r.n] 78)) = w5 at HR29 hs8
  clear gc0 gc1 gc2 gf0 gf1 gf2 gl
  clear bc0 bc1 bc2 bc3 bc4 bf0 bf1 bf2 bf3 bf4 bl
  clear kc0 kc1 kc2 kc3 kc4 kf0 kf1 kf2 kf3 kf4 kl
  clear vc0 vc1 vc2 vc3 vc4 vf0 vf1 vf2 vf3 vf4 vl
  have HG7 := Aside0.mk (HX37.out.blk HG3.out (show ¬ g = w.heap.size + 1 + 1 by omega))
  have HMB7 := Aside0.mk (HX37.out.blk HMB3.out (show ¬ mb = w.heap.size + 1 + 1 by rintro rfl; exact absurd (HMB3.out.symm.trans HB3.out) (by simp)))
  have gc0 := (blk_cell HG7.out 0).trans rfl
  have gc1 := (blk_cell HG7.out 1).trans rfl
  have gc2 := (blk_cell HG7.out 2).trans rfl
  have gf0 := blk_frozen HG7.out 0
  have gf1 := blk_frozen HG7.out 1
  have gf2 := blk_frozen HG7.out 2
  have gl := lt_of_blk HG7.out
  have pc0 := (blk_cell HP7.out 0).trans rfl
  have pc1 := (blk_cell HP7.out 1).trans rfl
  have pc2 := (blk_cell HP7.out 2).trans rfl
  have pc3 := (blk_cell HP7.out 3).trans rfl
  have pc4 := (blk_cell HP7.out 4).trans rfl
  have pc5 := (blk_cell HP7.out 5).trans rfl
  have pc6 := (blk_cell HP7.out 6).trans rfl
  have pc7 := (blk_cell HP7.out 7).trans rfl
  have pc8 := (blk_cell HP7.out 8).trans rfl
  have pc9 := (blk_cell HP7.out 9).trans rfl
  have pc10 := (blk_cell HP7.out 10).trans rfl
  have pf0 := blk_frozen HP7.out 0
  have pf1 := blk_frozen HP7.out 1
  have pf2 := blk_frozen HP7.out 2
  have pf3 := blk_frozen HP7.out 3
  have pf4 := blk_frozen HP7.out 4
  have pf5 := blk_frozen HP7.out 5
  have pf6 := blk_frozen HP7.out 6
  have pf7 := blk_frozen HP7.out 7
  have pf8 := blk_frozen HP7.out 8
  have pf9 := blk_frozen HP7.out 9
  have pf10 := blk_frozen HP7.out 10
  have pl := lt_of_blk HP7.out
  have bc0 := (blk_cell HB7.out 0).trans rfl
  have bc1 := (blk_cell HB7.out 1).trans rfl
  have bc2 := (blk_cell HB7.out 2).trans rfl
  have bc3 := (blk_cell HB7.out 3).trans rfl
  have bc4 := (blk_cell HB7.out 4).trans rfl
  have bf0 := blk_frozen HB7.out 0
  have bf1 := blk_frozen HB7.out 1
  have bf2 := blk_frozen HB7.out 2
  have bf3 := blk_frozen HB7.out 3
  have bf4 := blk_frozen HB7.out 4
  have bl := lt_of_blk HB7.out
  go_wp2_with fail
  clear gc0 gc1 gc2 gf0 gf1 gf2 gl
  clear pc0 pc1 pc2 pc3 pc4 pc5 pc6 pc7 pc8 pc9 pc10 pf0 pf1 pf2 pf3 pf4 pf5 pf6 pf7 pf8 pf9 pf10 pl
  clear bc0 bc1 bc2 bc3 bc4 bf0 bf1 bf2 bf3 bf4 bl
  have HX78 := Aside0.mk (ex_put78v (Ex.refl (fun b => b = w3.heap.size) w7) (.inl rfl) (.int .u8 y.f0) (.int .i64 y.f1) (.string y.f2) (.slice B1 y.f3.length d1) (.int .i64 y.f4))
  have HP8 := Aside0.mk (put78v HP7.out (.int .u8 y.f0) (.int .i64 y.f1) (.string y.f2) (.slice B1 y.f3.length d1) (.int .i64 y.f4))
  generalize (((((w7.setCell ⟨w3.heap.size, 5, none⟩ (.int .u8 y.f0)).setCell ⟨w3.heap.size, 6, none⟩ (.int .i64 y.f1)).setCell ⟨w3.heap.size, 7, none⟩ (.string y.f2)).setCell ⟨w3.heap.size, 8, none⟩ (.slice B1 y.f3.length d1)).setCell ⟨w3.heap.size, 9, none⟩ (.int .i64 y.f4)) = w8 at HX78 HP8 ⊢
  have HG8 := Aside0.mk (HX78.out.blk HG7.out (show ¬ g = w3.heap.size by have := HX3.out.size; omega))
  have HB8 := Aside0.mk (HX78.out.blk HB7.out (show ¬ w.heap.size + 1 + 1 = w3.heap.size by have := lt_of_blk HB3.out; omega))
  have HMB8 := Aside0.mk (HX78.out.blk HMB7.out (show ¬ mb = w3.heap.size by have := lt_of_blk HMB3.out; omega))
  have HPUT := run_old (blk_drew HMB8.out) HKEY.out (HT3.out.key_all) (HT3.out.keys_map HES.out) HP.out (.agg #[.int .u8 r.k.f0, .int .i64 r.k.f1, .string r.k.f2, .slice r.A r.k.f3.length r.ca, .int .i64 r.k.f4, .int .u8 y.f0, .int .i64 y.f1, .string y.f2, .slice B1 y.f3.length d1, .int .i64 y.f4, .int .i64 r.n])
  rw [HU.out] at HPUT
  have HX89 := Aside0.mk (ex_setB ((Ex.refl (fun b => b = mb) w8).drew) (.inl rfl) (.map (es.modify j fun e => { e with key := .iface t1 u1, val := .agg #[.int .u8 r.k.f0, .int .i64 r.k.f1, .string r.k.f2, .slice r.A r.k.f3.length r.ca, .int .i64 r.k.f4, .int .u8 y.f0, .int .i64 y.f1, .string y.f2, .slice B1 y.f3.length d1, .int .i64 y.f4, .int .i64 r.n] }) cl))
  have HMB9 := Aside0.mk (setB_blk (o' := .map (es.modify j fun e => { e with key := .iface t1 u1, val := .agg #[.int .u8 r.k.f0, .int .i64 r.k.f1, .string r.k.f2, .slice r.A r.k.f3.length r.ca, .int .i64 r.k.f4, .int .u8 y.f0, .int .i64 y.f1, .string y.f2, .slice B1 y.f3.length d1, .int .i64 y.f4, .int .i64 r.n] }) cl) (blk_drew HMB8.out))
  generalize setB w8.drew mb (.map (es.modify j fun e => { e with key := .iface t1 u1, val := .agg #[.int .u8 r.k.f0, .int .i64 r.k.f1, .string r.k.f2, .slice r.A r.k.f3.length r.ca, .int .i64 r.k.f4, .int .u8 y.f0, .int .i64 y.f1, .string y.f2, .slice B1 y.f3.length d1, .int .i64 y.f4, .int .i64 r.n] }) cl) = w9 at HPUT HX89 HMB9
  have gc0 := (blk_cell HG8.out 0).trans rfl
  have gc1 := (blk_cell HG8.out 1).trans rfl
  have gc2 := (blk_cell HG8.out 2).trans rfl
  have gf0 := blk_frozen HG8.out 0
  have gf1 := blk_frozen HG8.out 1
  have gf2 := blk_frozen HG8.out 2
  have gl := lt_of_blk HG8.out
  have pc0 := (blk_cell HP8.out 0).trans rfl
  have pc1 := (blk_cell HP8.out 1).trans rfl
  have pc2 := (blk_cell HP8.out 2).trans rfl
  have pc3 := (blk_cell HP8.out 3).trans rfl
  have pc4 := (blk_cell HP8.out 4).trans rfl
  have pc5 := (blk_cell HP8.out 5).trans rfl
  have pc6 := (blk_cell HP8.out 6).trans rfl
  have pc7 := (blk_cell HP8.out 7).trans rfl
  have pc8 := (blk_cell HP8.out 8).trans rfl
  have pc9 := (blk_cell HP8.out 9).trans rfl
  have pc10 := (blk_cell HP8.out 10).trans rfl
  have pf0 := blk_frozen HP8.out 0
  have pf1 := blk_frozen HP8.out 1
  have pf2 := blk_frozen HP8.out 2
  have pf3 := blk_frozen HP8.out 3
  have pf4 := blk_frozen HP8.out 4
  have pf5 := blk_frozen HP8.out 5
  have pf6 := blk_frozen HP8.out 6
  have pf7 := blk_frozen HP8.out 7
  have pf8 := blk_frozen HP8.out 8
  have pf9 := blk_frozen HP8.out 9
  have pf10 := blk_frozen HP8.out 10
  have pl := lt_of_blk HP8.out
  go_region
  clear HPUT
  clear gc0 gc1 gc2 gf0 gf1 gf2 gl
  clear pc0 pc1 pc2 pc3 pc4 pc5 pc6 pc7 pc8 pc9 pc10 pf0 pf1 pf2 pf3 pf4 pf5 pf6 pf7 pf8 pf9 pf10 pl
  have HB9 := Aside0.mk (HX89.out.blk HB8.out (fun e => by rw [← e] at HMB8; exact absurd (HMB8.out.symm.trans HB8.out) (by simp)))
  have bc0 := (blk_cell HB9.out 0).trans rfl
  have bc1 := (blk_cell HB9.out 1).trans rfl
  have bc2 := (blk_cell HB9.out 2).trans rfl
  have bc3 := (blk_cell HB9.out 3).trans rfl
  have bc4 := (blk_cell HB9.out 4).trans rfl
  have bf0 := blk_frozen HB9.out 0
  have bf1 := blk_frozen HB9.out 1
  have bf2 := blk_frozen HB9.out 2
  have bf3 := blk_frozen HB9.out 3
  have bf4 := blk_frozen HB9.out 4
  have bl := lt_of_blk HB9.out
  go_wp2_with fail
  have HX910 := Aside0.mk (ex_put27 (Ex.refl (fun b => b = w.heap.size + 1 + 1) w9) (.inl rfl) (.int .u8 r.v.f0) (.int .i64 r.v.f1) (.string r.v.f2) (.slice r.B r.v.f3.length r.cb) (.int .i64 r.v.f4))
  refine bodyPost_ret (results_row_tmp2 rfl _ _ (w.heap.size + 1 + 1) 27 _ (0, 0) _ rfl (put27 HB9.out rfl _ _ _ _ _) Try.underlying27 rfl size27) rfl ?_
  refine ⟨rfl, ?_⟩
  clear bc0 bc1 bc2 bc3 bc4 bf0 bf1 bf2 bf3 bf4 bl
  generalize (((((w9.setCell ⟨w.heap.size + 1 + 1, 0, none⟩ (.int .u8 r.v.f0)).setCell ⟨w.heap.size + 1 + 1, 1, none⟩ (.int .i64 r.v.f1)).setCell ⟨w.heap.size + 1 + 1, 2, none⟩ (.string r.v.f2)).setCell ⟨w.heap.size + 1 + 1, 3, none⟩ (.slice r.B r.v.f3.length r.cb)).setCell ⟨w.heap.size + 1 + 1, 4, none⟩ (.int .i64 r.v.f4)) = w10 at HX910 ⊢
  exact put_old_end HT.out HX3.out HX37.out HX78.out HX89.out HX910.out (lt_of_blk HB3.out) HRW.out.1 HRW.out.2 HMB9.out HES.out HU.out HN.out HL2.out HR29.out hs8

end Go.Proofs.Ythkemcekcfccpaa.PBrandCompares

namespace Go.Proofs.Ythkemcekcfccpaa.PBrandCompares
open Go.RowKit Go.Proofs.YthkemcekcfccpaaW.PrintWords Go.Proofs.YthkemcekcfccpaaW.PrintLast Go.Proofs.YthkemcekcfccpaaW.PrintMore
open Go.Proofs.Ythkemcekcfccpaa.GBrandCompares
set_option linter.unusedVariables false
set_option linter.unusedSimpArgs false

set_option maxRecDepth 100000 in
set_option maxHeartbeats 4000000 in
theorem put_new (x y : S27) (A B : Option Addr) (c d g mb ob : Nat) (T ok : Nat → Prop) (rows : List Row) (came : Nat) (w : World) (h : Tab w g mb ob T rows came) (hcame : came < 1000000000) (hc : x.f3.length ≤ c) (hd : y.f3.length ≤ d) (hF : Kd.F k27 w ok A x.f3.length x.f3) (hF2 : Kd.F k27 w ok B y.f3.length y.f3) (hok : ∀ b, ok b → ¬ T b) (hm : mayV x = true) (hn : mayV y = true) (m : Mk) (hmk : ∀ m2, MarkOf x m2 → m2 = m) (hkey : Key m) (hp : posMk m (rows.map (·.m)) = none) : PUT x y A B c d g w fun e w' => e = .returned (.tuple #[zval, .bool false, .int .i64 0]) ∧ Ex (fun b => b = g ∨ b = mb ∨ b = ob) w w' ∧ ∃ r : Row, r.m = m ∧ r.k = x ∧ r.v = y ∧ r.n = came + 1 ∧ Tab w' g mb ob (fun b => T b ∨ w.heap.size ≤ b) (rows ++ [r]) (came + 1) := by
  have HT := Aside0.mk h
  have HG := Aside0.mk h.hg
  have HF := Aside0.mk (Kd.F_bound hF)
  have HF2 := Aside0.mk (Kd.F_bound hF2)
  have HM := Aside0.mk hm
  have HN := Aside0.mk hn
  have HMK := Aside0.mk hmk
  have HKEY := Aside0.mk hkey
  have HOK := Aside0.mk hok
  have HC := Aside0.mk (And.intro hc hd)
  have HP := Aside0.mk hp
  obtain ⟨i0, hi0, hz0, _, _⟩ := info_parts info78
  have HI := Aside0.mk (And.intro hi0 hz0)
  clear h hF hm hF2 hn hmk hkey hp hi0 hz0 hok hc hd
  unfold PUT
  go_enter Try.func15, Try.ntmps15
  go_wp2_with fail
  refine (none_no g mb _ _ _ (blk_alloc (blk_alloc (blk_alloc HG.out _) _) _)).mono ?_
  rintro e w1 ⟨rfl, rfl⟩
  go_wp2_with fail
  refine (may_calls x A c _ _ (Kd.F_alloc (Kd.F_alloc (Kd.F_alloc HF.out _) _) _)).mono ?_
  rintro e w1 ⟨rfl, hx1⟩
  have hm' := HM.out
  rw [hm']
  clear hm'
  have HG1 := Aside0.mk (hx1.blk (blk_alloc (blk_alloc (blk_alloc HG.out _) _) _) (fun h => h))
  have HK1 := Aside0.mk (hx1.blk (blk_alloc (blk_alloc (blk_new1 w _) _) _) (fun h => h))
  have HV1 := Aside0.mk (hx1.blk (blk_alloc (blk_new2 w _ _) _) (fun h => h))
  have HB1 := Aside0.mk (show w1.heap[w.heap.size + 1 + 1]? = some (.cells #[.int .u8 0, .int .i64 0, .string ⟨#[]⟩, .slice none 0 0, .int .i64 0] 27 (0, 0)) from hx1.blk (blk_new3 w _ _ _) (fun h => h))
  have HX1 := Aside0.mk (((((Ex.refl (fun _ => False) w).alloc _).alloc _).alloc _).trans hx1 (fun _ h => h.elim))
  clear hx1
  have vc0 := (blk_cell HV1.out 0).trans rfl
  have vc1 := (blk_cell HV1.out 1).trans rfl
  have vc2 := (blk_cell HV1.out 2).trans rfl
  have vc3 := (blk_cell HV1.out 3).trans rfl
  have vc4 := (blk_cell HV1.out 4).trans rfl
  have vf0 := blk_frozen HV1.out 0
  have vf1 := blk_frozen HV1.out 1
  have vf2 := blk_frozen HV1.out 2
  have vf3 := blk_frozen HV1.out 3
  have vf4 := blk_frozen HV1.out 4
  have vl := lt_of_blk HV1.out
  go_wp2_with fail
  refine (may_calls y B d _ _ (ex_F HX1.out HF2.out (fun _ _ h => h))).mono ?_
  rintro e w2 ⟨rfl, hx2⟩
  have hm' := HN.out
  rw [hm']
  clear hm'
  have HG2 := Aside0.mk (hx2.blk HG1.out (fun h => h))
  have HK2 := Aside0.mk (hx2.blk HK1.out (fun h => h))
  have HV2 := Aside0.mk (hx2.blk HV1.out (fun h => h))
  have HB2 := Aside0.mk (hx2.blk HB1.out (fun h => h))
  have HX2 := Aside0.mk (HX1.out.trans hx2 (fun _ h => h.elim))
  clear hx2
  clear vc0 vc1 vc2 vc3 vc4 vf0 vf1 vf2 vf3 vf4 vl
  have kc0 := (blk_cell HK2.out 0).trans rfl
  have kc1 := (blk_cell HK2.out 1).trans rfl
  have kc2 := (blk_cell HK2.out 2).trans rfl
  have kc3 := (blk_cell HK2.out 3).trans rfl
  have kc4 := (blk_cell HK2.out 4).trans rfl
  have kf0 := blk_frozen HK2.out 0
  have kf1 := blk_frozen HK2.out 1
  have kf2 := blk_frozen HK2.out 2
  have kf3 := blk_frozen HK2.out 3
  have kf4 := blk_frozen HK2.out 4
  have kl := lt_of_blk HK2.out
  go_wp2_with fail
  refine (find_key' x A c g mb _ _ _ _ HG2.out (ex_F HX2.out HF.out (fun _ _ h => h)) HM.out).mono ?_
  rintro e w3 ⟨m2, h1, h2, hx3, rfl⟩
  have hm2 := HMK.out m2 h1
  subst hm2
  have hk' := HKEY.out.1
  rw [hk']
  clear hk' h2
  have H1 := Aside0.mk h1
  clear h1
  have HG3 := Aside0.mk (hx3.blk HG2.out (fun h => h))
  have HK3 := Aside0.mk (hx3.blk HK2.out (fun h => h))
  have HV3 := Aside0.mk (hx3.blk HV2.out (fun h => h))
  have HB3 := Aside0.mk (hx3.blk HB2.out (fun h => h))
  have HX3 := Aside0.mk (HX2.out.trans hx3 (fun _ h => h.elim))
  have HT3 := Aside0.mk (HT.out.ex0 HX3.out)
  have HF3 := Aside0.mk (ex_F HX3.out HF.out (fun _ _ h => h))
  have HF23 := Aside0.mk (ex_F HX3.out HF2.out (fun _ _ h => h))
  clear hx3
  clear kc0 kc1 kc2 kc3 kc4 kf0 kf1 kf2 kf3 kf4 kl
  obtain ⟨es, cl, hmb, hes⟩ := HT3.out.hm
  have hlk := run_lookup 63 78 Try.underlying63 HI.out.1 HI.out.2 hmb HKEY.out (HT3.out.key_all) (HT3.out.keys_map hes) true
  rw [HP.out] at hlk
  have hlk' : (Instr.lookup 63 (.map (some mb)) m2.val true).run Try.prog w3 = .ok (.tuple #[.agg #[.int .u8 0, .int .i64 0, .string ⟨#[]⟩, .slice none 0 0, .int .i64 0, .int .u8 0, .int .i64 0, .string ⟨#[]⟩, .slice none 0 0, .int .i64 0, .int .i64 0], .bool false]) w3 := hlk
  have HMB3 := Aside0.mk hmb
  have HES := Aside0.mk hes
  clear hlk hmb hes
  obtain ⟨t1, u1, hu1⟩ := m2.val_iface
  rw [hu1]
  rw [hu1] at hlk'
  have HU := Aside0.mk hu1
  clear hu1
  have hcm : (came : Int) < 1000000000 := by omega
  have hcm0 : (0 : Int) ≤ (came : Int) := by omega
  have gc0 := (blk_cell HG3.out 0).trans rfl
  have gc1 := (blk_cell HG3.out 1).trans rfl
  have gc2 := (blk_cell HG3.out 2).trans rfl
  have gf0 := blk_frozen HG3.out 0
  have gf1 := blk_frozen HG3.out 1
  have gf2 := blk_frozen HG3.out 2
  have gl := lt_of_blk HG3.out
  have bc0 := (blk_cell HB3.out 0).trans rfl
  have bc1 := (blk_cell HB3.out 1).trans rfl
  have bc2 := (blk_cell HB3.out 2).trans rfl
  have bc3 := (blk_cell HB3.out 3).trans rfl
  have bc4 := (blk_cell HB3.out 4).trans rfl
  have bf0 := blk_frozen HB3.out 0
  have bf1 := blk_frozen HB3.out 1
  have bf2 := blk_frozen HB3.out 2
  have bf3 := blk_frozen HB3.out 3
  have bf4 := blk_frozen HB3.out 4
  have bl := lt_of_blk HB3.out
  have kc0 := (blk_cell HK3.out 0).trans rfl
  have kc1 := (blk_cell HK3.out 1).trans rfl
  have kc2 := (blk_cell HK3.out 2).trans rfl
  have kc3 := (blk_cell HK3.out 3).trans rfl
  have kc4 := (blk_cell HK3.out 4).trans rfl
  have kf0 := blk_frozen HK3.out 0
  have kf1 := blk_frozen HK3.out 1
  have kf2 := blk_frozen HK3.out 2
  have kf3 := blk_frozen HK3.out 3
  have kf4 := blk_frozen HK3.out 4
  have kl := lt_of_blk HK3.out
  go_wp2_with fail
  clear gc0 gc1 gc2 gf0 gf1 gf2 gl
  clear bc0 bc1 bc2 bc3 bc4 bf0 bf1 bf2 bf3 bf4 bl
  clear kc0 kc1 kc2 kc3 kc4 kf0 kf1 kf2 kf3 kf4 kl
  have hgl := lt_of_blk HG3.out
  have hbl := lt_of_blk HB3.out
  have hg0 : g < w.heap.size := lt_of_blk HG.out
  have HG4 := Aside0.mk (blk_alloc (blk_put HG3.out 2 (.int .i64 ((came : Int) + 1)) rfl) (.cells #[.int .u8 0, .int .i64 0, .string ⟨#[]⟩, .slice none 0 0, .int .i64 0, .int .u8 0, .int .i64 0, .string ⟨#[]⟩, .slice none 0 0, .int .i64 0, .int .i64 0] 78))
  have HP4 := Aside0.mk (show ((w3.setCell ⟨g, 2, none⟩ (.int .i64 ((came : Int) + 1))).alloc (.cells #[.int .u8 0, .int .i64 0, .string ⟨#[]⟩, .slice none 0 0, .int .i64 0, .int .u8 0, .int .i64 0, .string ⟨#[]⟩, .slice none 0 0, .int .i64 0, .int .i64 0] 78)).heap[w3.heap.size]? = some (.cells #[.int .u8 0, .int .i64 0, .string ⟨#[]⟩, .slice none 0 0, .int .i64 0, .int .u8 0, .int .i64 0, .string ⟨#[]⟩, .slice none 0 0, .int .i64 0, .int .i64 0] 78 (0, 0)) from by
    have h := blk_new1 (w3.setCell ⟨g, 2, none⟩ (.int .i64 ((came : Int) + 1))) (.cells #[.int .u8 0, .int .i64 0, .string ⟨#[]⟩, .slice none 0 0, .int .i64 0, .int .u8 0, .int .i64 0, .string ⟨#[]⟩, .slice none 0 0, .int .i64 0, .int .i64 0] 78)
    rw [show (w3.setCell ⟨g, 2, none⟩ (.int .i64 ((came : Int) + 1))).heap.size = w3.heap.size by simp [World.setCell]] at h
    exact h)
  have HX4 := Aside0.mk (((Ex.refl (fun b => b = g) w3).set (p := ⟨g, 2, none⟩) (.inl rfl) (.int .i64 ((came : Int) + 1))).alloc (.cells #[.int .u8 0, .int .i64 0, .string ⟨#[]⟩, .slice none 0 0, .int .i64 0, .int .u8 0, .int .i64 0, .string ⟨#[]⟩, .slice none 0 0, .int .i64 0, .int .i64 0] 78))
  have HK4 := Aside0.mk (HX4.out.blk HK3.out (show ¬ w.heap.size = g by omega))
  have HV4 := Aside0.mk (HX4.out.blk HV3.out (show ¬ w.heap.size + 1 = g by omega))
  have HB4 := Aside0.mk (HX4.out.blk HB3.out (show ¬ w.heap.size + 1 + 1 = g by omega))
  have HMB4 := Aside0.mk (HX4.out.blk HMB3.out (fun e => by rw [e] at HMB3; exact absurd (HMB3.out.symm.trans HG3.out) (by simp)))
  obtain ⟨es2, cl2, hob, hes2⟩ := HT3.out.ho
  have HOB4 := Aside0.mk (HX4.out.blk hob (fun e => by rw [e] at hob; exact absurd (hob.symm.trans HG3.out) (by simp)))
  have HOB3 := Aside0.mk hob
  have HES2 := Aside0.mk hes2
  clear hob hes2
  have HF4 := Aside0.mk (ex_F HX4.out HF3.out (fun b hb e => HOK.out b hb.1 (by rw [e]; exact HT.out.tg)))
  have HF24 := Aside0.mk (ex_F HX4.out HF23.out (fun b hb e => HOK.out b hb.1 (by rw [e]; exact HT.out.tg)))
  generalize ((w3.setCell ⟨g, 2, none⟩ (.int .i64 ((came : Int) + 1))).alloc (.cells #[.int .u8 0, .int .i64 0, .string ⟨#[]⟩, .slice none 0 0, .int .i64 0, .int .u8 0, .int .i64 0, .string ⟨#[]⟩, .slice none 0 0, .int .i64 0, .int .i64 0] 78)) = w4 at HG4 HP4 HX4 HK4 HV4 HB4 HMB4 HOB4 HF4 HF24 ⊢
  have gc0 := (blk_cell HG4.out 0).trans rfl
  have gc1 := (blk_cell HG4.out 1).trans rfl
  have gc2 := (blk_cell HG4.out 2).trans rfl
  have gf0 := blk_frozen HG4.out 0
  have gf1 := blk_frozen HG4.out 1
  have gf2 := blk_frozen HG4.out 2
  have gl := lt_of_blk HG4.out
  have kc0 := (blk_cell HK4.out 0).trans rfl
  have kc1 := (blk_cell HK4.out 1).trans rfl
  have kc2 := (blk_cell HK4.out 2).trans rfl
  have kc3 := (blk_cell HK4.out 3).trans rfl
  have kc4 := (blk_cell HK4.out 4).trans rfl
  have kf0 := blk_frozen HK4.out 0
  have kf1 := blk_frozen HK4.out 1
  have kf2 := blk_frozen HK4.out 2
  have kf3 := blk_frozen HK4.out 3
  have kf4 := blk_frozen HK4.out 4
  have kl := lt_of_blk HK4.out
  have pc0 := (blk_cell HP4.out 0).trans rfl
  have pc1 := (blk_cell HP4.out 1).trans rfl
  have pc2 := (blk_cell HP4.out 2).trans rfl
  have pc3 := (blk_cell HP4.out 3).trans rfl
  have pc4 := (blk_cell HP4.out 4).trans rfl
  have pc5 := (blk_cell HP4.out 5).trans rfl
  have pc6 := (blk_cell HP4.out 6).trans rfl
  have pc7 := (blk_cell HP4.out 7).trans rfl
  have pc8 := (blk_cell HP4.out 8).trans rfl
  have pc9 := (blk_cell HP4.out 9).trans rfl
  have pc10 := (blk_cell HP4.out 10).trans rfl
  have pf0 := blk_frozen HP4.out 0
  have pf1 := blk_frozen HP4.out 1
  have pf2 := blk_frozen HP4.out 2
  have pf3 := blk_frozen HP4.out 3
  have pf4 := blk_frozen HP4.out 4
  have pf5 := blk_frozen HP4.out 5
  have pf6 := blk_frozen HP4.out 6
  have pf7 := blk_frozen HP4.out 7
  have pf8 := blk_frozen HP4.out 8
  have pf9 := blk_frozen HP4.out 9
  have pf10 := blk_frozen HP4.out 10
  have pl := lt_of_blk HP4.out
  go_region_law (first
    | (refine goes_ Try.func40 (by kernel_rfl) rfl #[.agg #[.int .u8 x.f0, .int .i64 x.f1, .string x.f2, .slice A x.f3.length c, .int .i64 x.f4]] (by rfl) rfl rfl (by (try simp only [List.map_toArray, List.map_cons, List.map_nil]); first | done | rfl) ?_; refine (own_calls x A c _ (fun k => ok k ∧ k < w.heap.size) HC.out.1 ?_ HM.out).mono ?_; exact Kd.F_drew HF4.out; rintro e w5 ⟨v, rfl, A1, c1, rfl, l1, hR, hx5⟩; refine ⟨_, rfl, ?_⟩; have HR5 := Aside0.mk (And.intro l1 hR); have HG5 := Aside0.mk (hx5.blk (blk_drew HG4.out) (fun h => h)); have HP5 := Aside0.mk (hx5.blk (blk_drew HP4.out) (fun h => h)); have HX5 := Aside0.mk hx5; clear l1 hR hx5; have qc0 := (blk_cell HG5.out 0).trans rfl; have qc1 := (blk_cell HG5.out 1).trans rfl; have qc2 := (blk_cell HG5.out 2).trans rfl; have qf0 := blk_frozen HG5.out 0; have qf1 := blk_frozen HG5.out 1; have qf2 := blk_frozen HG5.out 2; have ql := lt_of_blk HG5.out; have rc0 := (blk_cell HP5.out 0).trans rfl; have rc1 := (blk_cell HP5.out 1).trans rfl; have rc2 := (blk_cell HP5.out 2).trans rfl; have rc3 := (blk_cell HP5.out 3).trans rfl; have rc4 := (blk_cell HP5.out 4).trans rfl; have rc5 := (blk_cell HP5.out 5).trans rfl; have rc6 := (blk_cell HP5.out 6).trans rfl; have rc7 := (blk_cell HP5.out 7).trans rfl; have rc8 := (blk_cell HP5.out 8).trans rfl; have rc9 := (blk_cell HP5.out 9).trans rfl; have rc10 := (blk_cell HP5.out 10).trans rfl; have rf0 := blk_frozen HP5.out 0; have rf1 := blk_frozen HP5.out 1; have rf2 := blk_frozen HP5.out 2; have rf3 := blk_frozen HP5.out 3; have rf4 := blk_frozen HP5.out 4; have rf5 := blk_frozen HP5.out 5; have rf6 := blk_frozen HP5.out 6; have rf7 := blk_frozen HP5.out 7; have rf8 := blk_frozen HP5.out 8; have rf9 := blk_frozen HP5.out 9; have rf10 := blk_frozen HP5.out 10; have rl := lt_of_blk HP5.out))
  all_goals
    clear qc0 qc1 qc2 qf0 qf1 qf2 ql
    clear rc0 rc1 rc2 rc3 rc4 rc5 rc6 rc7 rc8 rc9 rc10 rf0 rf1 rf2 rf3 rf4 rf5 rf6 rf7 rf8 rf9 rf10 rl
    clear gc0 gc1 gc2 gf0 gf1 gf2 gl
    clear kc0 kc1 kc2 kc3 kc4 kf0 kf1 kf2 kf3 kf4 kl
    clear pc0 pc1 pc2 pc3 pc4 pc5 pc6 pc7 pc8 pc9 pc10 pf0 pf1 pf2 pf3 pf4 pf5 pf6 pf7 pf8 pf9 pf10 pl
    have hpl := lt_of_blk HP4.out
    have HS6 := Aside0.mk (ex_put78 (Ex.refl (fun b => b = w3.heap.size) w5) (.inl rfl) (.int .u8 x.f0) (.int .i64 x.f1) (.string x.f2) (.slice A1 x.f3.length c1) (.int .i64 x.f4) (.int .u8 0) (.int .i64 0) (.string ⟨#[]⟩) (.slice none 0 0) (.int .i64 0) (.int .i64 ((came : Int) + 1)))
    have HP6 := Aside0.mk (put78 HP5.out (.int .u8 x.f0) (.int .i64 x.f1) (.string x.f2) (.slice A1 x.f3.length c1) (.int .i64 x.f4) (.int .u8 0) (.int .i64 0) (.string ⟨#[]⟩) (.slice none 0 0) (.int .i64 0) (.int .i64 ((came : Int) + 1)))
    have HX46 := Aside0.mk ((((Ex.refl (fun b => b = w3.heap.size) w4).drew).trans HX5.out (fun _ h => h.elim)).trans HS6.out (fun b hb => .inl hb))
    have HR6 := Aside0.mk (Kd.R_mono (Kd.R_step (Kd.R_mono (Kd.R_bound HR5.out.2) (fun b hb => (show w4.heap.size ≤ b from hb.1))) (fun b hb _ => HS6.out.block b (by assumption) (show ¬ b = w3.heap.size by omega))) (fun b hb => hb))
    have HL1 := Aside0.mk HR5.out.1
    clear HR5
    generalize (((((((((((w5.setCell ⟨w3.heap.size, 0, none⟩ (.int .u8 x.f0)).setCell ⟨w3.heap.size, 1, none⟩ (.int .i64 x.f1)).setCell ⟨w3.heap.size, 2, none⟩ (.string x.f2)).setCell ⟨w3.heap.size, 3, none⟩ (.slice A1 x.f3.length c1)).setCell ⟨w3.heap.size, 4, none⟩ (.int .i64 x.f4)).setCell ⟨w3.heap.size, 5, none⟩ (.int .u8 0)).setCell ⟨w3.heap.size, 6, none⟩ (.int .i64 0)).setCell ⟨w3.heap.size, 7, none⟩ (.string ⟨#[]⟩)).setCell ⟨w3.heap.size, 8, none⟩ (.slice none 0 0)).setCell ⟨w3.heap.size, 9, none⟩ (.int .i64 0)).setCell ⟨w3.heap.size, 10, none⟩ (.int .i64 ((came : Int) + 1))) = w6 at HS6 HP6 HX46 HR6 ⊢
    clear HS6 HP5 HG5 HX5
    have HG6 := Aside0.mk (HX46.out.blk HG4.out (show ¬ g = w3.heap.size by omega))
    have HV6 := Aside0.mk (HX46.out.blk HV4.out (show ¬ w.heap.size + 1 = w3.heap.size by omega))
    have HB6 := Aside0.mk (HX46.out.blk HB4.out (show ¬ w.heap.size + 1 + 1 = w3.heap.size by omega))
    have HMB6 := Aside0.mk (HX46.out.blk HMB4.out (show ¬ mb = w3.heap.size by have := lt_of_blk HMB3.out; omega))
    have HOB6 := Aside0.mk (HX46.out.blk HOB4.out (show ¬ ob = w3.heap.size by have := lt_of_blk HOB3.out; omega))
    have HF26 := Aside0.mk (ex_F HX46.out HF24.out (fun b hb => show ¬ b = w3.heap.size by have := hb.2; omega))
    have HUP := run_order (blk_drew HOB6.out) HES2.out HT3.out.nums (.iface t1 u1)
    have HX67 := Aside0.mk (ex_setB ((Ex.refl (fun b => b = ob) w6).drew) (.inl rfl) (.map (es2.push { key := .int .i64 ((came : Int) + 1), val := .iface t1 u1, born := cl2 }) (cl2 + 1)))
    have HOB7 := Aside0.mk (setB_blk (o' := .map (es2.push { key := .int .i64 ((came : Int) + 1), val := .iface t1 u1, born := cl2 }) (cl2 + 1)) (blk_drew HOB6.out))
    generalize setB w6.drew ob (.map (es2.push { key := .int .i64 ((came : Int) + 1), val := .iface t1 u1, born := cl2 }) (cl2 + 1)) = w7 at HUP HX67 HOB7
    have gc0 := (blk_cell HG6.out 0).trans rfl
    have gc1 := (blk_cell HG6.out 1).trans rfl
    have gc2 := (blk_cell HG6.out 2).trans rfl
    have gf0 := blk_frozen HG6.out 0
    have gf1 := blk_frozen HG6.out 1
    have gf2 := blk_frozen HG6.out 2
    have gl := lt_of_blk HG6.out
    go_wp2
    go_region
    clear HUP
    have HG7 := Aside0.mk (HX67.out.blk HG6.out (fun e => by rw [← e] at HOB6; exact absurd (HOB6.out.symm.trans HG6.out) (by simp)))
    have HP7 := Aside0.mk (HX67.out.blk HP6.out (fun e => by rw [← e] at HOB6; exact absurd (HOB6.out.symm.trans HP6.out) (by simp)))
    have HV7 := Aside0.mk (HX67.out.blk HV6.out (fun e => by rw [← e] at HOB6; exact absurd (HOB6.out.symm.trans HV6.out) (by simp)))
    have HB7 := Aside0.mk (HX67.out.blk HB6.out (fun e => by rw [← e] at HOB6; exact absurd (HOB6.out.symm.trans HB6.out) (by simp)))
    have HMB7 := Aside0.mk (HX67.out.blk HMB6.out HT.out.ne)
    have HF27 := Aside0.mk (ex_F HX67.out HF26.out (fun b hb e => HOK.out b hb.1 (by rw [e]; exact HT.out.tb)))
    have HR7 := Aside0.mk (Kd.R_step HR6.out (fun b hb _ => HX67.out.block b (by assumption) (fun e => by have := lt_of_blk HOB4.out; rw [e] at hb; omega)))
    clear gc0 gc1 gc2 gf0 gf1 gf2 gl
    have pc0 := (blk_cell HP7.out 0).trans rfl
    have pc1 := (blk_cell HP7.out 1).trans rfl
    have pc2 := (blk_cell HP7.out 2).trans rfl
    have pc3 := (blk_cell HP7.out 3).trans rfl
    have pc4 := (blk_cell HP7.out 4).trans rfl
    have pc5 := (blk_cell HP7.out 5).trans rfl
    have pc6 := (blk_cell HP7.out 6).trans rfl
    have pc7 := (blk_cell HP7.out 7).trans rfl
    have pc8 := (blk_cell HP7.out 8).trans rfl
    have pc9 := (blk_cell HP7.out 9).trans rfl
    have pc10 := (blk_cell HP7.out 10).trans rfl
    have pf0 := blk_frozen HP7.out 0
    have pf1 := blk_frozen HP7.out 1
    have pf2 := blk_frozen HP7.out 2
    have pf3 := blk_frozen HP7.out 3
    have pf4 := blk_frozen HP7.out 4
    have pf5 := blk_frozen HP7.out 5
    have pf6 := blk_frozen HP7.out 6
    have pf7 := blk_frozen HP7.out 7
    have pf8 := blk_frozen HP7.out 8
    have pf9 := blk_frozen HP7.out 9
    have pf10 := blk_frozen HP7.out 10
    have pl := lt_of_blk HP7.out
    have vc0 := (blk_cell HV7.out 0).trans rfl
    have vc1 := (blk_cell HV7.out 1).trans rfl
    have vc2 := (blk_cell HV7.out 2).trans rfl
    have vc3 := (blk_cell HV7.out 3).trans rfl
    have vc4 := (blk_cell HV7.out 4).trans rfl
    have vf0 := blk_frozen HV7.out 0
    have vf1 := blk_frozen HV7.out 1
    have vf2 := blk_frozen HV7.out 2
    have vf3 := blk_frozen HV7.out 3
    have vf4 := blk_frozen HV7.out 4
    have vl := lt_of_blk HV7.out
    have bc0 := (blk_cell HB7.out 0).trans rfl
    have bc1 := (blk_cell HB7.out 1).trans rfl
    have bc2 := (blk_cell HB7.out 2).trans rfl
    have bc3 := (blk_cell HB7.out 3).trans rfl
    have bc4 := (blk_cell HB7.out 4).trans rfl
    have bf0 := blk_frozen HB7.out 0
    have bf1 := blk_frozen HB7.out 1
    have bf2 := blk_frozen HB7.out 2
    have bf3 := blk_frozen HB7.out 3
    have bf4 := blk_frozen HB7.out 4
    have bl := lt_of_blk HB7.out
    go_wp2_with fail
    have HX78 := Aside0.mk (ex_put27 (Ex.refl (fun b => b = w.heap.size + 1 + 1) w7) (.inl rfl) (.int .u8 0) (.int .i64 0) (.string ⟨#[]⟩) (.slice none 0 0) (.int .i64 0))
    have HB8 := Aside0.mk (put27 HB7.out rfl (.int .u8 0) (.int .i64 0) (.string ⟨#[]⟩) (.slice none 0 0) (.int .i64 0))
    refine (own_calls y B d _ (fun k => ok k ∧ k < w.heap.size) HC.out.2 (ex_F HX78.out HF27.out (fun b hb => show ¬ b = w.heap.size + 1 + 1 by have := hb.2; omega)) HN.out).mono ?_
    rintro e w9 ⟨v, rfl, B1, d1, rfl, l2, hR2, hx9⟩
    have HL2 := Aside0.mk l2
    have HX79 := Aside0.mk (HX78.out.trans hx9 (fun _ h => h.elim))
    have HB9 := Aside0.mk (hx9.blk HB8.out (fun h => h))
    have HR29 := Aside0.mk hR2
    have hs8 : w7.heap.size ≤ ((((((w7.setCell ⟨w.heap.size + 1 + 1, 0, none⟩ (.int .u8 0)).setCell ⟨w.heap.size + 1 + 1, 1, none⟩ (.int .i64 0)).setCell ⟨w.heap.size + 1 + 1, 2, none⟩ (.string ⟨#[]⟩)).setCell ⟨w.heap.size + 1 + 1, 3, none⟩ (.slice none 0 0)).setCell ⟨w.heap.size + 1 + 1, 4, none⟩ (.int .i64 0))).heap.size := HX78.out.size
    have hs8' : ((((((w7.setCell ⟨w.heap.size + 1 + 1, 0, none⟩ (.int .u8 0)).setCell ⟨w.heap.size + 1 + 1, 1, none⟩ (.int .i64 0)).setCell ⟨w.heap.size + 1 + 1, 2, none⟩ (.string ⟨#[]⟩)).setCell ⟨w.heap.size + 1 + 1, 3, none⟩ (.slice none 0 0)).setCell ⟨w.heap.size + 1 + 1, 4, none⟩ (.int .i64 0))).heap.size ≤ w9.heap.size := hx9.size
    clear HX78 HB8 hx9 hR2 l2
    generalize (((((w7.setCell ⟨w.heap.size + 1 + 1, 0, none⟩ (.int .u8 0)).setCell ⟨w.heap.size + 1 + 1, 1, none⟩ (.int .i64 0)).setCell ⟨w.heap.size + 1 + 1, 2, none⟩ (.string ⟨#[]⟩)).setCell ⟨w.heap.size + 1 + 1, 3, none⟩ (.slice none 0 0)).setCell ⟨w.heap.size + 1 + 1, 4, none⟩ (.int .i64 0)) = w8 at HR29 hs8 hs8'
    clear pc0 pc1 pc2 pc3 pc4 pc5 pc6 pc7 pc8 pc9 pc10 pf0 pf1 pf2 pf3 pf4 pf5 pf6 pf7 pf8 pf9 pf10 pl
    clear vc0 vc1 vc2 vc3 vc4 vf0 vf1 vf2 vf3 vf4 vl
    clear bc0 bc1 bc2 bc3 bc4 bf0 bf1 bf2 bf3 bf4 bl
    have HG9 := Aside0.mk (HX79.out.blk HG7.out (show ¬ g = w.heap.size + 1 + 1 by omega))
    have HP9 := Aside0.mk (HX79.out.blk HP7.out (show ¬ w3.heap.size = w.heap.size + 1 + 1 by omega))
    have HMB9 := Aside0.mk (HX79.out.blk HMB7.out (show ¬ mb = w.heap.size + 1 + 1 by rintro rfl; exact absurd (HMB7.out.symm.trans HB7.out) (by simp)))
    have HOB9 := Aside0.mk (HX79.out.blk HOB7.out (show ¬ ob = w.heap.size + 1 + 1 by rintro rfl; exact absurd (HOB7.out.symm.trans HB7.out) (by simp)))
    have HR9 := Aside0.mk (Kd.R_step HR7.out (fun b hb _ => HX79.out.block b (by assumption) (show ¬ b = w.heap.size + 1 + 1 by have := lt_of_blk HB4.out; omega)))
    have pc0 := (blk_cell HP9.out 0).trans rfl
    have pc1 := (blk_cell HP9.out 1).trans rfl
    have pc2 := (blk_cell HP9.out 2).trans rfl
    have pc3 := (blk_cell HP9.out 3).trans rfl
    have pc4 := (blk_cell HP9.out 4).trans rfl
    have pc5 := (blk_cell HP9.out 5).trans rfl
    have pc6 := (blk_cell HP9.out 6).trans rfl
    have pc7 := (blk_cell HP9.out 7).trans rfl
    have pc8 := (blk_cell HP9.out 8).trans rfl
    have pc9 := (blk_cell HP9.out 9).trans rfl
    have pc10 := (blk_cell HP9.out 10).trans rfl
    have pf0 := blk_frozen HP9.out 0
    have pf1 := blk_frozen HP9.out 1
    have pf2 := blk_frozen HP9.out 2
    have pf3 := blk_frozen HP9.out 3
    have pf4 := blk_frozen HP9.out 4
    have pf5 := blk_frozen HP9.out 5
    have pf6 := blk_frozen HP9.out 6
    have pf7 := blk_frozen HP9.out 7
    have pf8 := blk_frozen HP9.out 8
    have pf9 := blk_frozen HP9.out 9
    have pf10 := blk_frozen HP9.out 10
    have pl := lt_of_blk HP9.out
    have bc0 := (blk_cell HB9.out 0).trans rfl
    have bc1 := (blk_cell HB9.out 1).trans rfl
    have bc2 := (blk_cell HB9.out 2).trans rfl
    have bc3 := (blk_cell HB9.out 3).trans rfl
    have bc4 := (blk_cell HB9.out 4).trans rfl
    have bf0 := blk_frozen HB9.out 0
    have bf1 := blk_frozen HB9.out 1
    have bf2 := blk_frozen HB9.out 2
    have bf3 := blk_frozen HB9.out 3
    have bf4 := blk_frozen HB9.out 4
    have bl := lt_of_blk HB9.out
    go_wp2_with fail
    clear pc0 pc1 pc2 pc3 pc4 pc5 pc6 pc7 pc8 pc9 pc10 pf0 pf1 pf2 pf3 pf4 pf5 pf6 pf7 pf8 pf9 pf10 pl
    clear bc0 bc1 bc2 bc3 bc4 bf0 bf1 bf2 bf3 bf4 bl
    have HX910 := Aside0.mk (ex_put78v (Ex.refl (fun b => b = w3.heap.size) w9) (.inl rfl) (.int .u8 y.f0) (.int .i64 y.f1) (.string y.f2) (.slice B1 y.f3.length d1) (.int .i64 y.f4))
    have HP10 := Aside0.mk (put78v HP9.out (.int .u8 y.f0) (.int .i64 y.f1) (.string y.f2) (.slice B1 y.f3.length d1) (.int .i64 y.f4))
    generalize (((((w9.setCell ⟨w3.heap.size, 5, none⟩ (.int .u8 y.f0)).setCell ⟨w3.heap.size, 6, none⟩ (.int .i64 y.f1)).setCell ⟨w3.heap.size, 7, none⟩ (.string y.f2)).setCell ⟨w3.heap.size, 8, none⟩ (.slice B1 y.f3.length d1)).setCell ⟨w3.heap.size, 9, none⟩ (.int .i64 y.f4)) = w10 at HX910 HP10 ⊢
    have HG10 := Aside0.mk (HX910.out.blk HG9.out (show ¬ g = w3.heap.size by omega))
    have HB10 := Aside0.mk (HX910.out.blk HB9.out (show ¬ w.heap.size + 1 + 1 = w3.heap.size by omega))
    have HMB10 := Aside0.mk (HX910.out.blk HMB9.out (show ¬ mb = w3.heap.size by have := lt_of_blk HMB3.out; omega))
    have HOB10 := Aside0.mk (HX910.out.blk HOB9.out (show ¬ ob = w3.heap.size by have := lt_of_blk HOB3.out; omega))
    have HPUT := run_new (blk_drew HMB10.out) HKEY.out (HT3.out.key_all) (HT3.out.keys_map HES.out) HP.out (.agg #[.int .u8 x.f0, .int .i64 x.f1, .string x.f2, .slice A1 x.f3.length c1, .int .i64 x.f4, .int .u8 y.f0, .int .i64 y.f1, .string y.f2, .slice B1 y.f3.length d1, .int .i64 y.f4, .int .i64 ((came : Int) + 1)])
    rw [HU.out] at HPUT
    have HX1011 := Aside0.mk (ex_setB ((Ex.refl (fun b => b = mb) w10).drew) (.inl rfl) (.map (es.push { key := .iface t1 u1, val := .agg #[.int .u8 x.f0, .int .i64 x.f1, .string x.f2, .slice A1 x.f3.length c1, .int .i64 x.f4, .int .u8 y.f0, .int .i64 y.f1, .string y.f2, .slice B1 y.f3.length d1, .int .i64 y.f4, .int .i64 ((came : Int) + 1)], born := cl }) (cl + 1)))
    have HMB11 := Aside0.mk (setB_blk (o' := .map (es.push { key := .iface t1 u1, val := .agg #[.int .u8 x.f0, .int .i64 x.f1, .string x.f2, .slice A1 x.f3.length c1, .int .i64 x.f4, .int .u8 y.f0, .int .i64 y.f1, .string y.f2, .slice B1 y.f3.length d1, .int .i64 y.f4, .int .i64 ((came : Int) + 1)], born := cl }) (cl + 1)) (blk_drew HMB10.out))
    generalize setB w10.drew mb (.map (es.push { key := .iface t1 u1, val := .agg #[.int .u8 x.f0, .int .i64 x.f1, .string x.f2, .slice A1 x.f3.length c1, .int .i64 x.f4, .int .u8 y.f0, .int .i64 y.f1, .string y.f2, .slice B1 y.f3.length d1, .int .i64 y.f4, .int .i64 ((came : Int) + 1)], born := cl }) (cl + 1)) = w11 at HPUT HX1011 HMB11
    have gc0 := (blk_cell HG10.out 0).trans rfl
    have gc1 := (blk_cell HG10.out 1).trans rfl
    have gc2 := (blk_cell HG10.out 2).trans rfl
    have gf0 := blk_frozen HG10.out 0
    have gf1 := blk_frozen HG10.out 1
    have gf2 := blk_frozen HG10.out 2
    have gl := lt_of_blk HG10.out
    have pc0 := (blk_cell HP10.out 0).trans rfl
    have pc1 := (blk_cell HP10.out 1).trans rfl
    have pc2 := (blk_cell HP10.out 2).trans rfl
    have pc3 := (blk_cell HP10.out 3).trans rfl
    have pc4 := (blk_cell HP10.out 4).trans rfl
    have pc5 := (blk_cell HP10.out 5).trans rfl
    have pc6 := (blk_cell HP10.out 6).trans rfl
    have pc7 := (blk_cell HP10.out 7).trans rfl
    have pc8 := (blk_cell HP10.out 8).trans rfl
    have pc9 := (blk_cell HP10.out 9).trans rfl
    have pc10 := (blk_cell HP10.out 10).trans rfl
    have pf0 := blk_frozen HP10.out 0
    have pf1 := blk_frozen HP10.out 1
    have pf2 := blk_frozen HP10.out 2
    have pf3 := blk_frozen HP10.out 3
    have pf4 := blk_frozen HP10.out 4
    have pf5 := blk_frozen HP10.out 5
    have pf6 := blk_frozen HP10.out 6
    have pf7 := blk_frozen HP10.out 7
    have pf8 := blk_frozen HP10.out 8
    have pf9 := blk_frozen HP10.out 9
    have pf10 := blk_frozen HP10.out 10
    have pl := lt_of_blk HP10.out
    go_region
    clear HPUT
    clear gc0 gc1 gc2 gf0 gf1 gf2 gl
    clear pc0 pc1 pc2 pc3 pc4 pc5 pc6 pc7 pc8 pc9 pc10 pf0 pf1 pf2 pf3 pf4 pf5 pf6 pf7 pf8 pf9 pf10 pl
    have HG11 := Aside0.mk (HX1011.out.blk HG10.out (fun e => by rw [← e] at HMB10; exact absurd (HMB10.out.symm.trans HG10.out) (by simp)))
    have HB11 := Aside0.mk (HX1011.out.blk HB10.out (fun e => by rw [← e] at HMB10; exact absurd (HMB10.out.symm.trans HB10.out) (by simp)))
    have HOB11 := Aside0.mk (HX1011.out.blk HOB10.out (Ne.symm HT.out.ne))
    have bc0 := (blk_cell HB11.out 0).trans rfl
    have bc1 := (blk_cell HB11.out 1).trans rfl
    have bc2 := (blk_cell HB11.out 2).trans rfl
    have bc3 := (blk_cell HB11.out 3).trans rfl
    have bc4 := (blk_cell HB11.out 4).trans rfl
    have bf0 := blk_frozen HB11.out 0
    have bf1 := blk_frozen HB11.out 1
    have bf2 := blk_frozen HB11.out 2
    have bf3 := blk_frozen HB11.out 3
    have bf4 := blk_frozen HB11.out 4
    have bl := lt_of_blk HB11.out
    go_wp2_with fail
    have HX1112 := Aside0.mk (ex_put27 (Ex.refl (fun b => b = w.heap.size + 1 + 1) w11) (.inl rfl) (.int .u8 0) (.int .i64 0) (.string ⟨#[]⟩) (.slice none 0 0) (.int .i64 0))
    refine bodyPost_ret (results_row_tmp2 rfl _ _ (w.heap.size + 1 + 1) 27 _ (0, 0) _ rfl (put27 HB11.out rfl _ _ _ _ _) Try.underlying27 rfl size27) rfl ?_
    refine ⟨rfl, ?_⟩
    clear bc0 bc1 bc2 bc3 bc4 bf0 bf1 bf2 bf3 bf4 bl
    generalize (((((w11.setCell ⟨w.heap.size + 1 + 1, 0, none⟩ (.int .u8 0)).setCell ⟨w.heap.size + 1 + 1, 1, none⟩ (.int .i64 0)).setCell ⟨w.heap.size + 1 + 1, 2, none⟩ (.string ⟨#[]⟩)).setCell ⟨w.heap.size + 1 + 1, 3, none⟩ (.slice none 0 0)).setCell ⟨w.heap.size + 1 + 1, 4, none⟩ (.int .i64 0)) = w12 at HX1112 ⊢
    exact put_new_end HT.out HX3.out HX4.out (lt_of_blk HP4.out) HX46.out HX67.out HX79.out HX910.out HX1011.out HX1112.out (lt_of_blk HB3.out) HG11.out rfl HMB11.out HOB11.out HES.out HES2.out HU.out H1.out HKEY.out HP.out HM.out HN.out HL1.out HL2.out HR9.out HR29.out hs8

end Go.Proofs.Ythkemcekcfccpaa.PBrandCompares

namespace Go.Proofs.Ythkemcekcfccpaa.PBrandCompares
open Go.RowKit Go.Proofs.YthkemcekcfccpaaW.PrintWords Go.Proofs.YthkemcekcfccpaaW.PrintLast Go.Proofs.YthkemcekcfccpaaW.PrintMore
open Go.Proofs.Ythkemcekcfccpaa.GBrandCompares
set_option linter.unusedVariables false
set_option linter.unusedSimpArgs false

theorem number_calls (n : Int) (w : World) : Calls Try.prog 27 #[.int .i64 n] w fun e w' => e = .returned (.agg #[.int .u8 1, .int .i64 n, .string ⟨#[]⟩, .slice none 0 0, .int .i64 0]) ∧ Ex (fun _ => False) w w' := by
  go_enter Try.func27, Try.ntmps27
  go_wp2_with fail
  refine bodyPost_ret (results_cell_row rfl _ _ w.heap.size 27 _ (0, 0) _ rfl (blk_new1 w _) Try.underlying27 rfl size27) rfl ?_
  exact ⟨rfl, (Ex.refl _ _).alloc _⟩

theorem word_calls (s : ByteArray) (w : World) : Calls Try.prog 28 #[.string s] w fun e w' => e = .returned (.agg #[.int .u8 2, .int .i64 0, .string s, .slice none 0 0, .int .i64 0]) ∧ Ex (fun _ => False) w w' := by
  go_enter Try.func28, Try.ntmps28
  go_wp2_with fail
  refine bodyPost_ret (results_cell_row rfl _ _ w.heap.size 27 _ (0, 0) _ rfl (blk_new1 w _) Try.underlying27 rfl size27) rfl ?_
  exact ⟨rfl, (Ex.refl _ _).alloc _⟩

theorem list_calls (A : Option Addr) (n c : Nat) (w : World) : Calls Try.prog 29 #[.slice A n c] w fun e w' => e = .returned (.agg #[.int .u8 3, .int .i64 0, .string ⟨#[]⟩, .slice A n c, .int .i64 0]) ∧ Ex (fun _ => False) w w' := by
  go_enter Try.func29, Try.ntmps29
  go_wp2_with fail
  refine bodyPost_ret (results_cell_row rfl _ _ w.heap.size 27 _ (0, 0) _ rfl (blk_new1 w _) Try.underlying27 rfl size27) rfl ?_
  exact ⟨rfl, (Ex.refl _ _).alloc _⟩

def num (n : Int) : S27 := ⟨1, n, ⟨#[]⟩, [], 0⟩
def txt (s : ByteArray) : S27 := ⟨2, 0, s, [], 0⟩
def lst (l : List S27) : S27 := ⟨3, 0, ⟨#[]⟩, l, 0⟩

theorem F_pair {w : World} {b : Nat} (m n : Int) (h : w.heap[b]? = some (.cells #[.int .u8 1, .int .i64 m, .string ⟨#[]⟩, .slice none 0 0, .int .i64 0, .int .u8 1, .int .i64 n, .string ⟨#[]⟩, .slice none 0 0, .int .i64 0] 27 (0, 0))) :
    Kd.F k27 w (fun k => k = b) (some ⟨b, 0, none⟩) 2 [num m, num n] := by
  intro W' hW
  have h' : W'.heap[b]? = some (.cells #[.int .u8 1, .int .i64 m, .string ⟨#[]⟩, .slice none 0 0, .int .i64 0, .int .u8 1, .int .i64 n, .string ⟨#[]⟩, .slice none 0 0, .int .i64 0] 27 (0, 0)) := (hW b rfl (lt_of_blk h)).trans h
  have hk : ∀ m : Int, k27.K W' (num m) [.int .u8 1, .int .i64 m, .string ⟨#[]⟩, .slice none 0 0, .int .i64 0] := fun m => k27_mk W' (num m) (A3 := none) (c3 := 0) (Nat.le_refl _) (Kd.C_nil k27 W')
  refine ⟨rfl, by omega, fun _ => ⟨⟨b, 0, none⟩, rfl, ?_⟩⟩
  intro j p hj
  match j with
  | 0 =>
    cases hj
    refine ⟨_, rfl, hk m, ?_⟩
    intro i u hu
    rw [show k27.sz = 5 from rfl, show 0 * 5 + i = i by omega]
    have hc := blk_cell h' i
    have : i < 5 := by have := (List.getElem?_eq_some_iff.1 hu).1; simpa using this
    match i with
    | 0 | 1 | 2 | 3 | 4 => cases hu; exact hc
  | 1 =>
    cases hj
    refine ⟨_, rfl, hk n, ?_⟩
    intro i u hu
    rw [show k27.sz = 5 from rfl]
    have hc := blk_cell h' (1 * 5 + i)
    have : i < 5 := by have := (List.getElem?_eq_some_iff.1 hu).1; simpa using this
    match i with
    | 0 | 1 | 2 | 3 | 4 => cases hu; exact hc
  | j + 2 => simp at hj

end Go.Proofs.Ythkemcekcfccpaa.PBrandCompares
