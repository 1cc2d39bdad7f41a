/- Tables: one row more; one row's value turned. -/
import Derived.Test.YthkemcekcfccpaaBrandComparesT2
namespace Go.Proofs.Ythkemcekcfccpaa.PBrandCompares
open Go.RowKit Go.Proofs.YthkemcekcfccpaaW.PrintWords Go.Proofs.YthkemcekcfccpaaW.PrintLast Go.Proofs.YthkemcekcfccpaaW.PrintMore
open Go.Proofs.Ythkemcekcfccpaa.GBrandCompares
set_option linter.unusedVariables false
set_option linter.unusedSimpArgs false

theorem put_new_end {x y : S27} {g mb ob : Nat} {T : Nat → Prop} {rows : List Row} {came : Nat} {m : Mk} {w w3 w4 w6 w7 w9 w10 w11 w12 : World} {A1 B1 : Option Addr} {c1 d1 n8 cl cl2 : Nat} {es es2 : Array MapEntry} {t1 : TypeId} {u1 : Value} {cs : Array Value}
    (HT : Tab w g mb ob T rows came) (HX3 : Ex (fun _ => False) w w3) (HX4 : Ex (fun b => b = g) w3 w4) (h34 : w3.heap.size < w4.heap.size) (HX46 : Ex (fun b => b = w3.heap.size) w4 w6) (HX67 : Ex (fun b => b = ob) w6 w7)
    (HX79 : Ex (fun b => b = w.heap.size + 1 + 1) w7 w9) (HX910 : Ex (fun b => b = w3.heap.size) w9 w10) (HX1011 : Ex (fun b => b = mb) w10 w11) (HX1112 : Ex (fun b => b = w.heap.size + 1 + 1) w11 w12) (hb : w.heap.size + 1 + 1 < w3.heap.size)
    (HG11 : w11.heap[g]? = some (.cells cs 66 (0, 0))) (hcs : cs = #[.map (some mb), .map (some ob), .int .i64 ((came : Int) + 1)])
    (HMB11 : w11.heap[mb]? = some (.map (es.push { key := .iface t1 u1, val := .agg #[.int .u8 x.f0, .int .i64 x.f1, .string x.f2, .slice A1 x.f3.length c1, .int .i64 x.f4, .int .u8 y.f0, .int .i64 y.f1, .string y.f2, .slice B1 y.f3.length d1, .int .i64 y.f4, .int .i64 ((came : Int) + 1)], born := cl }) (cl + 1)))
    (HOB11 : w11.heap[ob]? = some (.map (es2.push { key := .int .i64 ((came : Int) + 1), val := .iface t1 u1, born := cl2 }) (cl2 + 1)))
    (HES : es.toList = rows.map Row.e1) (HES2 : es2.toList = rows.map Row.e2) (HU : m.val = .iface t1 u1) (H1 : MarkOf x m) (HKEY : Key m) (HP : posMk m (rows.map (·.m)) = none) (HM : mayV x = true) (HN : mayV y = true) (HL1 : x.f3.length ≤ c1) (HL2 : y.f3.length ≤ d1)
    (HR9 : Kd.R k27 27 w9 w4.drew.heap.size (fun b => w4.heap.size ≤ b) (.slice A1 x.f3.length c1) x.f3) (HR29 : Kd.R k27 27 w9 n8 (fun b => n8 ≤ b) (.slice B1 y.f3.length d1) y.f3) (h8 : w7.heap.size ≤ n8) :
    Ex (fun b => b = g ∨ b = mb ∨ b = ob) w w12 ∧ ∃ r : Row, r.m = m ∧ r.k = x ∧ r.v = y ∧ r.n = came + 1 ∧ Tab w12 g mb ob (fun b => T b ∨ w.heap.size ≤ b) (rows ++ [r]) (came + 1) := by
  have hg : g < w.heap.size := lt_of_blk HT.hg
  have hmb : mb < w.heap.size := let ⟨_, _, h, _⟩ := HT.hm; lt_of_blk h
  have hob : ob < w.heap.size := let ⟨_, _, h, _⟩ := HT.ho; lt_of_blk h
  have h3 := HX3.size
  have h4 := HX4.size
  have h6 := HX46.size
  have h7 := HX67.size
  have h9 := HX79.size
  have h10 := HX910.size
  have h11 := HX1011.size
  have X4 : Ex (fun b => b = g ∨ b = mb ∨ b = ob) w w4 := (HX3.mono (fun _ h => h.elim)).trans HX4 (fun b hb => .inl (.inl hb))
  have X6 := X4.trans HX46 (fun b hb => .inr (by rw [hb]; exact h3))
  have X7 := X6.trans HX67 (fun b hb => .inl (.inr (.inr hb)))
  have X9 := X7.trans HX79 (fun b hb => .inr (by omega))
  have X10 := X9.trans HX910 (fun b hb => .inr (by omega))
  have X11 := X10.trans HX1011 (fun b hb => .inl (.inr (.inl hb)))
  have X12 := X11.trans HX1112 (fun b hb => .inr (by omega))
  have X912 : Ex (fun b => b = w3.heap.size ∨ b = mb ∨ b = w.heap.size + 1 + 1) w9 w12 := ((HX910.mono (fun _ h => .inl h)).trans HX1011 (fun b hb => .inl (.inr (.inl hb)))).trans HX1112 (fun b hb => .inl (.inr (.inr hb)))
  have hgm : g ≠ mb := by
    rintro rfl
    obtain ⟨_, _, h, _⟩ := HT.hm
    exact absurd (h.symm.trans HT.hg) (by simp)
  have hgo : g ≠ ob := by
    rintro rfl
    obtain ⟨_, _, h, _⟩ := HT.ho
    exact absurd (h.symm.trans HT.hg) (by simp)
  have hR1 : Kd.F k27 w12 (fun b => (T b ∨ w.heap.size ≤ b) ∧ b ≠ g ∧ b ≠ mb ∧ b ≠ ob) A1 x.f3.length x.f3 :=
    Kd.F_mono (ex_F X912 (R_F HR9) (fun b hb => by omega)) (fun b hb => ⟨.inr (by omega), by omega, by omega, by omega⟩)
  have hR2 : Kd.F k27 w12 (fun b => (T b ∨ w.heap.size ≤ b) ∧ b ≠ g ∧ b ≠ mb ∧ b ≠ ob) B1 y.f3.length y.f3 :=
    Kd.F_mono (ex_F X912 (R_F HR29) (fun b hb => by omega)) (fun b hb => ⟨.inr (by omega), by omega, by omega, by omega⟩)
  refine ⟨X12, ⟨m, x, y, A1, c1, B1, d1, came + 1, cl, cl2⟩, rfl, rfl, rfl, rfl, ?_⟩
  have hcast : (((came + 1 : Nat)) : Int) = (came : Int) + 1 := by omega
  refine { hg := ?_, hm := ?_, ho := ?_, good := ?_, tg := .inl HT.tg, tm := .inl HT.tm, tb := .inl HT.tb, ne := HT.ne, nums := ?_, marks := ?_, cames := ?_ }
  · rw [hcast, ← hcs]
    exact HX1112.blk HG11 (show ¬ g = w.heap.size + 1 + 1 by omega)
  · refine ⟨_, _, HX1112.blk HMB11 (show ¬ mb = w.heap.size + 1 + 1 by omega), ?_⟩
    rw [Array.toList_push, HES, List.map_append, List.map_singleton, Row.e1, Row.val, hcast, HU]
  · refine ⟨_, _, HX1112.blk HOB11 (show ¬ ob = w.heap.size + 1 + 1 by omega), ?_⟩
    rw [Array.toList_push, HES2, List.map_append, List.map_singleton, Row.e2, hcast, HU]
  · intro r hr
    rcases List.mem_append.1 hr with hr | hr
    · have h := HT.good r hr
      refine { h with fk := ?_, fv := ?_ }
      · exact Kd.F_mono (ex_F X12 (Kd.F_bound h.fk) (fun b hb => by have := hb.1; omega)) (fun b hb => ⟨.inl hb.1.1, hb.1.2⟩)
      · exact Kd.F_mono (ex_F X12 (Kd.F_bound h.fv) (fun b hb => by have := hb.1; omega)) (fun b hb => ⟨.inl hb.1.1, hb.1.2⟩)
    · rw [List.mem_singleton] at hr
      subst hr
      exact ⟨H1, HKEY, HM, HN, HL1, HL2, hR1, hR2⟩
  · intro r hr
    rcases List.mem_append.1 hr with hr | hr
    · have := HT.nums r hr
      omega
    · rw [List.mem_singleton] at hr
      subst hr
      show 1 ≤ came + 1 ∧ came + 1 ≤ came + 1
      omega
  · rw [List.pairwise_append]
    refine ⟨HT.marks, by simp, ?_⟩
    intro r hr s hs
    rw [List.mem_singleton] at hs
    subst hs
    exact posMk_none HKEY.1 HP r.m (List.mem_map.2 ⟨r, hr, rfl⟩)
  · rw [List.pairwise_append]
    refine ⟨HT.cames, by simp, ?_⟩
    intro r hr s hs
    rw [List.mem_singleton] at hs
    subst hs
    have := HT.nums r hr
    show r.n ≠ came + 1
    omega

theorem modify_list {es : Array MapEntry} {rows : List Row} {j : Nat} {r r' : Row} {f : MapEntry → MapEntry} (h : es.toList = rows.map Row.e1) (hr : rows[j]? = some r) (hf : f r.e1 = r'.e1) : (es.modify j f).toList = (rows.set j r').map Row.e1 := by
  apply List.ext_getElem?
  intro i
  have hi := congrArg (fun l => l[i]?) h
  simp only [Array.getElem?_toList, List.getElem?_map] at hi
  rw [Array.getElem?_toList, Array.getElem?_modify, List.getElem?_map, List.getElem?_set]
  by_cases hij : j = i
  · subst hij
    rw [if_pos rfl, if_pos rfl, hi, hr]
    have : j < rows.length := (List.getElem?_eq_some_iff.1 hr).1
    simp [this, hf]
  · rw [if_neg hij, if_neg hij, hi]

theorem under_row {es : Array MapEntry} {rows : List Row} {j : Nat} {r : Row} {z : Value} (h : es.toList = rows.map Row.e1) (hr : rows[j]? = some r) : under es z (some j) = (r.val, true) := by
  have hj := congrArg (fun l => l[j]?) h
  simp only [Array.getElem?_toList, List.getElem?_map, hr, Option.map_some] at hj
  simp [under, hj, Row.e1]

theorem pairwise_set {α : Type} {R : α → α → Prop} (hs : ∀ a b, R a b → R b a) {l : List α} {j : Nat} {r r' : α} (h : l.Pairwise R) (hr : l[j]? = some r) (h1 : ∀ s, R r s → R r' s) : (l.set j r').Pairwise R := by
  induction l generalizing j with
  | nil => simp
  | cons a l ih =>
    rw [List.pairwise_cons] at h
    cases j with
    | zero =>
      simp only [List.getElem?_cons_zero, Option.some.injEq] at hr
      subst hr
      simp only [List.set_cons_zero, List.pairwise_cons]
      exact ⟨fun s hs => h1 s (h.1 s hs), h.2⟩
    | succ j =>
      simp only [List.getElem?_cons_succ] at hr
      simp only [List.set_cons_succ, List.pairwise_cons]
      refine ⟨fun s hs' => ?_, ih h.2 hr⟩
      rcases List.mem_or_eq_of_mem_set hs' with h2 | rfl
      · exact h.1 s h2
      · exact hs _ _ (h1 _ (hs _ _ (h.1 r (List.mem_of_getElem? hr))))

/-- the row whose value is turned -/
def Row.turn (r : Row) (y : S27) (B : Option Addr) (d : Nat) : Row := { r with v := y, B := B, cb := d }

theorem put_old_end {y : S27} {g mb ob : Nat} {T : Nat → Prop} {rows : List Row} {came j : Nat} {r : Row} {m : Mk} {w w3 w7 w8 w9 w10 : World} {B1 : Option Addr} {d1 n8 cl : Nat} {es : Array MapEntry} {t1 : TypeId} {u1 : Value}
    (HT : Tab w g mb ob T rows came) (HX3 : Ex (fun _ => False) w w3) (HX37 : Ex (fun b => b = w.heap.size + 1 + 1) w3 w7) (HX78 : Ex (fun b => b = w3.heap.size) w7 w8) (HX89 : Ex (fun b => b = mb) w8 w9) (HX910 : Ex (fun b => b = w.heap.size + 1 + 1) w9 w10) (hb : w.heap.size + 1 + 1 < w3.heap.size)
    (HR : rows[j]? = some r) (HRM : r.m = m)
    (HMB9 : w9.heap[mb]? = some (.map (es.modify j fun e => { e with key := .iface t1 u1, val := .agg #[.int .u8 r.k.f0, .int .i64 r.k.f1, .string r.k.f2, .slice r.A r.k.f3.length r.ca, .int .i64 r.k.f4, .int .u8 y.f0, .int .i64 y.f1, .string y.f2, .slice B1 y.f3.length d1, .int .i64 y.f4, .int .i64 r.n] }) cl))
    (HES : es.toList = rows.map Row.e1) (HU : m.val = .iface t1 u1) (HN : mayV y = true) (HL2 : y.f3.length ≤ d1) (HR29 : Kd.R k27 27 w7 n8 (fun b => n8 ≤ b) (.slice B1 y.f3.length d1) y.f3) (h8 : w3.heap.size < n8) :
    Ex (fun b => b = g ∨ b = mb ∨ b = ob) w w10 ∧ Kd.F k27 w10 T r.B r.v.f3.length r.v.f3 ∧ ∃ B d, Tab w10 g mb ob (fun b => T b ∨ w.heap.size ≤ b) (rows.set j (r.turn y B d)) came := by
  have hg : g < w.heap.size := lt_of_blk HT.hg
  have hmb : mb < w.heap.size := let ⟨_, _, h, _⟩ := HT.hm; lt_of_blk h
  have hob : ob < w.heap.size := let ⟨_, _, h, _⟩ := HT.ho; lt_of_blk h
  have h3 := HX3.size
  have hgm : g ≠ mb := by
    rintro rfl
    obtain ⟨_, _, h, _⟩ := HT.hm
    exact absurd (h.symm.trans HT.hg) (by simp)
  have X7 : Ex (fun b => b = mb) w w7 := (HX3.mono (fun _ h => h.elim)).trans HX37 (fun b hb => .inr (by omega))
  have X8 := X7.trans HX78 (fun b hb => .inr (by omega))
  have X9 := X8.trans HX89 (fun b hb => .inl hb)
  have X10 := X9.trans HX910 (fun b hb => .inr (by omega))
  have X710 : Ex (fun b => b = w3.heap.size ∨ b = mb ∨ b = w.heap.size + 1 + 1) w7 w10 := ((HX78.mono (fun _ h => .inl h)).trans HX89 (fun b hb => .inl (.inr (.inl hb)))).trans HX910 (fun b hb => .inl (.inr (.inr hb)))
  have hgood := HT.good r (List.mem_of_getElem? HR)
  have hj : j < rows.length := (List.getElem?_eq_some_iff.1 HR).1
  refine ⟨X10.mono (fun b hb => .inr (.inl hb)), Kd.F_mono (ex_F X10 hgood.fv (fun b hb => hb.2.2.1)) (fun b hb => hb.1), B1, d1, ?_⟩
  have hR2 : Kd.F k27 w10 (fun b => (T b ∨ w.heap.size ≤ b) ∧ b ≠ g ∧ b ≠ mb ∧ b ≠ ob) B1 y.f3.length y.f3 :=
    Kd.F_mono (ex_F X710 (R_F HR29) (fun b hb => by omega)) (fun b hb => ⟨.inr (by omega), by omega, by omega, by omega⟩)
  have hsame : ∀ s : Row, s.Good w (fun b => T b ∧ b ≠ g ∧ b ≠ mb ∧ b ≠ ob) → s.Good w10 (fun b => (T b ∨ w.heap.size ≤ b) ∧ b ≠ g ∧ b ≠ mb ∧ b ≠ ob) := fun s h =>
    (h.ex X10 (fun b hb => hb.2.2.1)).mono (fun b hb => ⟨.inl hb.1, hb.2⟩)
  refine { hg := X10.blk HT.hg hgm, hm := ⟨_, _, HX910.blk HMB9 (show ¬ mb = w.heap.size + 1 + 1 by omega), modify_list HES HR ?_⟩, ho := ?_, good := ?_, tg := .inl HT.tg, tm := .inl HT.tm, tb := .inl HT.tb, ne := HT.ne, nums := ?_, marks := ?_, cames := ?_ }
  · simp only [Row.e1, Row.val, Row.turn, HRM, HU]
  · obtain ⟨es', c', h1, h2⟩ := HT.ho
    refine ⟨es', c', X10.blk h1 (Ne.symm HT.ne), ?_⟩
    rw [h2]
    apply List.ext_getElem?
    intro i
    rw [List.getElem?_map, List.getElem?_map, List.getElem?_set]
    by_cases hij : j = i
    · subst hij
      rw [if_pos rfl, if_pos hj, HR]
      rfl
    · rw [if_neg hij]
  · intro s hs
    rcases List.mem_or_eq_of_mem_set hs with h | rfl
    · exact hsame s (HT.good s h)
    · have h := hsame r hgood
      exact { h with mayv := HN, lv := HL2, fv := hR2 }
  · intro s hs
    rcases List.mem_or_eq_of_mem_set hs with h | rfl
    · exact HT.nums s h
    · exact HT.nums r (List.mem_of_getElem? HR)
  · exact pairwise_set (fun _ _ h => Ne.symm h) HT.marks HR (fun s h => h)
  · exact pairwise_set (fun _ _ h => Ne.symm h) HT.cames HR (fun s h => h)

end Go.Proofs.Ythkemcekcfccpaa.PBrandCompares
