/- Tables of package brand: what a table's memory says (Tab), and Put. -/
import Derived.Test.YthkemcekcfccpaaBrandComparesT1
import Derived.Test.YthkemcekcfccpaaBrandComparesO2
import Derived.Deep.RegionLaw
namespace Go.Proofs.Ythkemcekcfccpaa.PBrandCompares
open Go.RowKit Go.Proofs.YthkemcekcfccpaaW.PrintWords Go.Proofs.YthkemcekcfccpaaW.PrintLast Go.Proofs.YthkemcekcfccpaaW.PrintMore
open Go.Proofs.Ythkemcekcfccpaa.GBrandCompares
set_option linter.unusedVariables false
set_option linter.unusedSimpArgs false

/-- what stands under a mark: the mark, the key, the value, which one came; where their lists lie; the two entries' stamps -/
structure Row where
  m : Mk
  k : S27
  v : S27
  A : Option Addr
  ca : Nat
  B : Option Addr
  cb : Nat
  n : Nat
  b1 : Nat
  b2 : Nat

def Row.val (r : Row) : Value := .agg #[.int .u8 r.k.f0, .int .i64 r.k.f1, .string r.k.f2, .slice r.A r.k.f3.length r.ca, .int .i64 r.k.f4, .int .u8 r.v.f0, .int .i64 r.v.f1, .string r.v.f2, .slice r.B r.v.f3.length r.cb, .int .i64 r.v.f4, .int .i64 r.n]
def Row.e1 (r : Row) : MapEntry := { key := r.m.val, val := r.val, born := r.b1 }
def Row.e2 (r : Row) : MapEntry := { key := .int .i64 r.n, val := r.m.val, born := r.b2 }

/-- a row is good, over a world's blocks T -/
structure Row.Good (w : World) (T : Nat → Prop) (r : Row) : Prop where
  mark : MarkOf r.k r.m
  key : Key r.m
  mayk : mayV r.k = true
  mayv : mayV r.v = true
  lk : r.k.f3.length ≤ r.ca
  lv : r.v.f3.length ≤ r.cb
  fk : Kd.F k27 w T r.A r.k.f3.length r.k.f3
  fv : Kd.F k27 w T r.B r.v.f3.length r.v.f3

/-- the memory at g is a table: T has its blocks -/
structure Tab (w : World) (g mb ob : Nat) (T : Nat → Prop) (rows : List Row) (came : Nat) : Prop where
  hg : w.heap[g]? = some (.cells #[.map (some mb), .map (some ob), .int .i64 came] 66 (0, 0))
  hm : ∃ es c, w.heap[mb]? = some (.map es c) ∧ es.toList = rows.map Row.e1
  ho : ∃ es c, w.heap[ob]? = some (.map es c) ∧ es.toList = rows.map Row.e2
  good : ∀ r ∈ rows, r.Good w (fun b => T b ∧ b ≠ g ∧ b ≠ mb ∧ b ≠ ob)
  tg : T g
  tm : T mb
  tb : T ob
  ne : mb ≠ ob
  nums : ∀ r ∈ rows, 1 ≤ r.n ∧ r.n ≤ came
  marks : rows.Pairwise (fun r s => r.m ≠ s.m)
  cames : rows.Pairwise (fun r s => r.n ≠ s.n)

theorem Row.Good.ex {S T : Nat → Prop} {w w1 : World} {r : Row} (h : r.Good w T) (hx : Ex S w w1) (hs : ∀ b, T b → ¬ S b) : r.Good w1 T :=
  { h with fk := ex_F hx h.fk hs, fv := ex_F hx h.fv hs }
theorem Row.Good.mono {T T' : Nat → Prop} {w : World} {r : Row} (h : r.Good w T) (ht : ∀ b, T b → T' b) : r.Good w T' :=
  { h with fk := Kd.F_mono h.fk ht, fv := Kd.F_mono h.fv ht }

/-- what turns none of its blocks leaves a table a table -/
theorem Tab.ex {S T : Nat → Prop} {w w1 : World} {g mb ob : Nat} {rows : List Row} {came : Nat} (h : Tab w g mb ob T rows came) (hx : Ex S w w1) (hs : ∀ b, T b → ¬ S b) : Tab w1 g mb ob T rows came :=
  { h with
    hg := hx.blk h.hg (hs _ h.tg)
    hm := let ⟨es, c, h1, h2⟩ := h.hm; ⟨es, c, hx.blk h1 (hs _ h.tm), h2⟩
    ho := let ⟨es, c, h1, h2⟩ := h.ho; ⟨es, c, hx.blk h1 (hs _ h.tb), h2⟩
    good := fun r hr => (h.good r hr).ex hx (fun b hb => hs b hb.1) }
theorem Tab.ex0 {T : Nat → Prop} {w w1 : World} {g mb ob : Nat} {rows : List Row} {came : Nat} (h : Tab w g mb ob T rows came) (hx : Ex (fun _ => False) w w1) : Tab w1 g mb ob T rows came := h.ex hx (fun _ _ h => h)
theorem Tab.mono {T T' : Nat → Prop} {w : World} {g mb ob : Nat} {rows : List Row} {came : Nat} (h : Tab w g mb ob T rows came) (ht : ∀ b, T b → T' b) : Tab w g mb ob T' rows came :=
  { h with tg := ht _ h.tg, tm := ht _ h.tm, tb := ht _ h.tb, good := fun r hr => (h.good r hr).mono (fun b hb => ⟨ht b hb.1, hb.2⟩) }

theorem Tab.keys_map {T : Nat → Prop} {w : World} {g mb ob : Nat} {rows : List Row} {came : Nat} (h : Tab w g mb ob T rows came) {es : Array MapEntry} (he : es.toList = rows.map Row.e1) : es.toList.map (·.key) = (rows.map (·.m)).map Mk.val := by
  rw [he]; simp [Row.e1]
theorem Tab.key_all {T : Nat → Prop} {w : World} {g mb ob : Nat} {rows : List Row} {came : Nat} (h : Tab w g mb ob T rows came) : ∀ m ∈ rows.map (·.m), Key m := by
  intro m hm
  obtain ⟨r, hr, rfl⟩ := List.mem_map.1 hm
  exact (h.good r hr).key

/-- nothing under any mark -/
def zrow : Row := ⟨.nothing, z27, z27, none, 0, none, 0, 0, 0, 0⟩
theorem info78 : (Try.prog.info? 78).map (fun i => (i.zero, i.size, i.bytes)) = some (some zrow.val, 11, 136) := by kernel_rfl

/-- a table's entry written over, field by field -/
theorem put78 {w : World} {g : Nat} {x0 x1 x2 x3 x4 x5 x6 x7 x8 x9 x10 : Value} (h : w.heap[g]? = some (.cells #[x0, x1, x2, x3, x4, x5, x6, x7, x8, x9, x10] 78 (0, 0))) (a0 a1 a2 a3 a4 a5 a6 a7 a8 a9 a10 : Value) : (((((((((((w.setCell ⟨g, 0, none⟩ a0).setCell ⟨g, 1, none⟩ a1).setCell ⟨g, 2, none⟩ a2).setCell ⟨g, 3, none⟩ a3).setCell ⟨g, 4, none⟩ a4).setCell ⟨g, 5, none⟩ a5).setCell ⟨g, 6, none⟩ a6).setCell ⟨g, 7, none⟩ a7).setCell ⟨g, 8, none⟩ a8).setCell ⟨g, 9, none⟩ a9).setCell ⟨g, 10, none⟩ a10).heap[g]? = some (.cells #[a0, a1, a2, a3, a4, a5, a6, a7, a8, a9, a10] 78 (0, 0)) := by
  have h0 : (w.setCell ⟨g, 0, none⟩ a0).heap[g]? = some (.cells #[a0, x1, x2, x3, x4, x5, x6, x7, x8, x9, x10] 78 (0, 0)) := blk_put h 0 _ rfl
  have h1 : ((w.setCell ⟨g, 0, none⟩ a0).setCell ⟨g, 1, none⟩ a1).heap[g]? = some (.cells #[a0, a1, x2, x3, x4, x5, x6, x7, x8, x9, x10] 78 (0, 0)) := blk_put h0 1 _ rfl
  have h2 : (((w.setCell ⟨g, 0, none⟩ a0).setCell ⟨g, 1, none⟩ a1).setCell ⟨g, 2, none⟩ a2).heap[g]? = some (.cells #[a0, a1, a2, x3, x4, x5, x6, x7, x8, x9, x10] 78 (0, 0)) := blk_put h1 2 _ rfl
  have h3 : ((((w.setCell ⟨g, 0, none⟩ a0).setCell ⟨g, 1, none⟩ a1).setCell ⟨g, 2, none⟩ a2).setCell ⟨g, 3, none⟩ a3).heap[g]? = some (.cells #[a0, a1, a2, a3, x4, x5, x6, x7, x8, x9, x10] 78 (0, 0)) := blk_put h2 3 _ rfl
  have h4 : (((((w.setCell ⟨g, 0, none⟩ a0).setCell ⟨g, 1, none⟩ a1).setCell ⟨g, 2, none⟩ a2).setCell ⟨g, 3, none⟩ a3).setCell ⟨g, 4, none⟩ a4).heap[g]? = some (.cells #[a0, a1, a2, a3, a4, x5, x6, x7, x8, x9, x10] 78 (0, 0)) := blk_put h3 4 _ rfl
  have h5 : ((((((w.setCell ⟨g, 0, none⟩ a0).setCell ⟨g, 1, none⟩ a1).setCell ⟨g, 2, none⟩ a2).setCell ⟨g, 3, none⟩ a3).setCell ⟨g, 4, none⟩ a4).setCell ⟨g, 5, none⟩ a5).heap[g]? = some (.cells #[a0, a1, a2, a3, a4, a5, x6, x7, x8, x9, x10] 78 (0, 0)) := blk_put h4 5 _ rfl
  have h6 : (((((((w.setCell ⟨g, 0, none⟩ a0).setCell ⟨g, 1, none⟩ a1).setCell ⟨g, 2, none⟩ a2).setCell ⟨g, 3, none⟩ a3).setCell ⟨g, 4, none⟩ a4).setCell ⟨g, 5, none⟩ a5).setCell ⟨g, 6, none⟩ a6).heap[g]? = some (.cells #[a0, a1, a2, a3, a4, a5, a6, x7, x8, x9, x10] 78 (0, 0)) := blk_put h5 6 _ rfl
  have h7 : ((((((((w.setCell ⟨g, 0, none⟩ a0).setCell ⟨g, 1, none⟩ a1).setCell ⟨g, 2, none⟩ a2).setCell ⟨g, 3, none⟩ a3).setCell ⟨g, 4, none⟩ a4).setCell ⟨g, 5, none⟩ a5).setCell ⟨g, 6, none⟩ a6).setCell ⟨g, 7, none⟩ a7).heap[g]? = some (.cells #[a0, a1, a2, a3, a4, a5, a6, a7, x8, x9, x10] 78 (0, 0)) := blk_put h6 7 _ rfl
  have h8 : (((((((((w.setCell ⟨g, 0, none⟩ a0).setCell ⟨g, 1, none⟩ a1).setCell ⟨g, 2, none⟩ a2).setCell ⟨g, 3, none⟩ a3).setCell ⟨g, 4, none⟩ a4).setCell ⟨g, 5, none⟩ a5).setCell ⟨g, 6, none⟩ a6).setCell ⟨g, 7, none⟩ a7).setCell ⟨g, 8, none⟩ a8).heap[g]? = some (.cells #[a0, a1, a2, a3, a4, a5, a6, a7, a8, x9, x10] 78 (0, 0)) := blk_put h7 8 _ rfl
  have h9 : ((((((((((w.setCell ⟨g, 0, none⟩ a0).setCell ⟨g, 1, none⟩ a1).setCell ⟨g, 2, none⟩ a2).setCell ⟨g, 3, none⟩ a3).setCell ⟨g, 4, none⟩ a4).setCell ⟨g, 5, none⟩ a5).setCell ⟨g, 6, none⟩ a6).setCell ⟨g, 7, none⟩ a7).setCell ⟨g, 8, none⟩ a8).setCell ⟨g, 9, none⟩ a9).heap[g]? = some (.cells #[a0, a1, a2, a3, a4, a5, a6, a7, a8, a9, x10] 78 (0, 0)) := blk_put h8 9 _ rfl
  have h10 : (((((((((((w.setCell ⟨g, 0, none⟩ a0).setCell ⟨g, 1, none⟩ a1).setCell ⟨g, 2, none⟩ a2).setCell ⟨g, 3, none⟩ a3).setCell ⟨g, 4, none⟩ a4).setCell ⟨g, 5, none⟩ a5).setCell ⟨g, 6, none⟩ a6).setCell ⟨g, 7, none⟩ a7).setCell ⟨g, 8, none⟩ a8).setCell ⟨g, 9, none⟩ a9).setCell ⟨g, 10, none⟩ a10).heap[g]? = some (.cells #[a0, a1, a2, a3, a4, a5, a6, a7, a8, a9, a10] 78 (0, 0)) := blk_put h9 10 _ rfl
  exact h10
theorem ex_put78 {S : Nat → Prop} {w0 w : World} {g : Nat} (h : Ex S w0 w) (hg : S g ∨ w0.heap.size ≤ g) (a0 a1 a2 a3 a4 a5 a6 a7 a8 a9 a10 : Value) : Ex S w0 (((((((((((w.setCell ⟨g, 0, none⟩ a0).setCell ⟨g, 1, none⟩ a1).setCell ⟨g, 2, none⟩ a2).setCell ⟨g, 3, none⟩ a3).setCell ⟨g, 4, none⟩ a4).setCell ⟨g, 5, none⟩ a5).setCell ⟨g, 6, none⟩ a6).setCell ⟨g, 7, none⟩ a7).setCell ⟨g, 8, none⟩ a8).setCell ⟨g, 9, none⟩ a9).setCell ⟨g, 10, none⟩ a10) :=
  (((((((((((h.set (p := ⟨g, 0, none⟩) hg a0).set (p := ⟨g, 1, none⟩) hg a1).set (p := ⟨g, 2, none⟩) hg a2).set (p := ⟨g, 3, none⟩) hg a3).set (p := ⟨g, 4, none⟩) hg a4).set (p := ⟨g, 5, none⟩) hg a5).set (p := ⟨g, 6, none⟩) hg a6).set (p := ⟨g, 7, none⟩) hg a7).set (p := ⟨g, 8, none⟩) hg a8).set (p := ⟨g, 9, none⟩) hg a9).set (p := ⟨g, 10, none⟩) hg a10)

/-- the map of the order, one more behind all -/
theorem find_order (k : Int) : ∀ (l : List MapEntry) (i : Nat), (∀ e ∈ l, ∃ n : Int, e.key = .int .i64 n ∧ n ≠ k) → Instr.findNow (.int .i64) (.int .i64 k) l i = some none
  | [], _, _ => rfl
  | e :: l, i, h => by
    obtain ⟨n, he, hn⟩ := h e (.head _)
    unfold Instr.findNow
    rw [he]
    simp only [Instr.sameNow, if_true]
    rw [show ((k == n) : Bool) = false by simpa using Ne.symm hn]
    exact find_order k l (i + 1) (fun e he => h e (.tail _ he))
theorem run_order {w : World} {r clock : Nat} {es : Array MapEntry} {rows : List Row} {came : Nat} (hb : w.heap[r]? = some (.map es clock)) (hes : es.toList = rows.map Row.e2) (hn : ∀ r ∈ rows, 1 ≤ r.n ∧ r.n ≤ came) (v : Value) :
    (Instr.mapUpdate 64 (.map (some r)) (.int .i64 ((came : Int) + 1)) v).run Try.prog w = .ok () (setB w r (.map (es.push { key := .int .i64 ((came : Int) + 1), val := v, born := clock }) (clock + 1))) := by
  unfold Instr.mapUpdate
  rw [Sem.run_bind, run_underlying Try.underlying64, Result.andThen_ok]
  have hc : (Instr.checkKey false 10000 3 (.int .i64 ((came : Int) + 1))).run Try.prog w = .ok () w := check_int Try.underlying3 false 9999 _ w
  have hf : (Instr.findKey 3 (.int .i64 ((came : Int) + 1)) es.toList).run Try.prog w = .ok none w := Go.MapKept.run_findKey Try.underlying3 (find_order _ _ _ (by
    rw [hes]
    intro e he
    obtain ⟨r, hr, rfl⟩ := List.mem_map.1 he
    exact ⟨r.n, rfl, by have := hn r hr; omega⟩))
  simp only [Sem.run_bind, Go.MapKept.run_getObj_map hb, Result.andThen_ok, Sem.run_pure, hc, hf]
  exact Go.MapKept.run_setObj_map _ hb

theorem put78v {w : World} {g : Nat} {x0 x1 x2 x3 x4 x5 x6 x7 x8 x9 x10 : Value} (h : w.heap[g]? = some (.cells #[x0, x1, x2, x3, x4, x5, x6, x7, x8, x9, x10] 78 (0, 0))) (a5 a6 a7 a8 a9 : Value) : (((((w.setCell ⟨g, 5, none⟩ a5).setCell ⟨g, 6, none⟩ a6).setCell ⟨g, 7, none⟩ a7).setCell ⟨g, 8, none⟩ a8).setCell ⟨g, 9, none⟩ a9).heap[g]? = some (.cells #[x0, x1, x2, x3, x4, a5, a6, a7, a8, a9, x10] 78 (0, 0)) := by
  have h5 : (w.setCell ⟨g, 5, none⟩ a5).heap[g]? = some (.cells #[x0, x1, x2, x3, x4, a5, x6, x7, x8, x9, x10] 78 (0, 0)) := blk_put h 5 _ rfl
  have h6 : ((w.setCell ⟨g, 5, none⟩ a5).setCell ⟨g, 6, none⟩ a6).heap[g]? = some (.cells #[x0, x1, x2, x3, x4, a5, a6, x7, x8, x9, x10] 78 (0, 0)) := blk_put h5 6 _ rfl
  have h7 : (((w.setCell ⟨g, 5, none⟩ a5).setCell ⟨g, 6, none⟩ a6).setCell ⟨g, 7, none⟩ a7).heap[g]? = some (.cells #[x0, x1, x2, x3, x4, a5, a6, a7, x8, x9, x10] 78 (0, 0)) := blk_put h6 7 _ rfl
  have h8 : ((((w.setCell ⟨g, 5, none⟩ a5).setCell ⟨g, 6, none⟩ a6).setCell ⟨g, 7, none⟩ a7).setCell ⟨g, 8, none⟩ a8).heap[g]? = some (.cells #[x0, x1, x2, x3, x4, a5, a6, a7, a8, x9, x10] 78 (0, 0)) := blk_put h7 8 _ rfl
  have h9 : (((((w.setCell ⟨g, 5, none⟩ a5).setCell ⟨g, 6, none⟩ a6).setCell ⟨g, 7, none⟩ a7).setCell ⟨g, 8, none⟩ a8).setCell ⟨g, 9, none⟩ a9).heap[g]? = some (.cells #[x0, x1, x2, x3, x4, a5, a6, a7, a8, a9, x10] 78 (0, 0)) := blk_put h8 9 _ rfl
  exact h9
theorem ex_put78v {S : Nat → Prop} {w0 w : World} {g : Nat} (h : Ex S w0 w) (hg : S g ∨ w0.heap.size ≤ g) (a5 a6 a7 a8 a9 : Value) : Ex S w0 (((((w.setCell ⟨g, 5, none⟩ a5).setCell ⟨g, 6, none⟩ a6).setCell ⟨g, 7, none⟩ a7).setCell ⟨g, 8, none⟩ a8).setCell ⟨g, 9, none⟩ a9) :=
  (((((h.set (p := ⟨g, 5, none⟩) hg a5).set (p := ⟨g, 6, none⟩) hg a6).set (p := ⟨g, 7, none⟩) hg a7).set (p := ⟨g, 8, none⟩) hg a8).set (p := ⟨g, 9, none⟩) hg a9)

theorem posMk_none {a : Mk} {ms : List Mk} (ha : a.keys = true) (h : posMk a ms = none) : ∀ m ∈ ms, m ≠ a := by
  rintro m hm rfl
  unfold posMk at h
  have := List.findIdx?_eq_none_iff.1 h m hm
  rcases cmp_keys m m ha ha with ⟨h1, _⟩ | ⟨_, h1⟩
  · rw [h1] at this; simp at this
  · exact h1 rfl
theorem R_F {w : World} {base c : Nat} {ok : Nat → Prop} {A : Option Addr} {xs : List S27} (h : Kd.R k27 27 w base ok (.slice A xs.length c) xs) : Kd.F k27 w ok A xs.length xs := Kd.V_F (Kd.R_V (base' := 0) h)

/-- the map of the marks, one more behind all -/
theorem run_new {w : World} {r clock : Nat} {es : Array MapEntry} {ms : List Mk} {a : Mk} (hb : w.heap[r]? = some (.map es clock)) (ha : Key a) (hm : ∀ m ∈ ms, Key m) (hl : es.toList.map (·.key) = ms.map Mk.val) (hp : posMk a ms = none) (v : Value) :
    (Instr.mapUpdate 63 (.map (some r)) a.val v).run Try.prog w = .ok () (setB w r (.map (es.push { key := a.val, val := v, born := clock }) (clock + 1))) := by
  have h := run_put 63 78 Try.underlying63 hb ha hm hl v
  rw [hp] at h
  exact h
/-- .. one that is there written over -/
theorem run_old {w : World} {r clock : Nat} {es : Array MapEntry} {ms : List Mk} {a : Mk} {j : Nat} (hb : w.heap[r]? = some (.map es clock)) (ha : Key a) (hm : ∀ m ∈ ms, Key m) (hl : es.toList.map (·.key) = ms.map Mk.val) (hp : posMk a ms = some j) (v : Value) :
    (Instr.mapUpdate 63 (.map (some r)) a.val v).run Try.prog w = .ok () (setB w r (.map (es.modify j fun e => { e with key := a.val, val := v }) clock)) := by
  have h := run_put 63 78 Try.underlying63 hb ha hm hl v
  rw [hp] at h
  exact h

end Go.Proofs.Ythkemcekcfccpaa.PBrandCompares
