/- Maps whose keys are marks: what a lookup, an update, an entry come to. -/
import Derived.Test.YthkemcekcfccpaaBrandComparesH2
import Derived.Test.YthkemcekcfccpaaBrandComparesG2
import Derived.MapKept
namespace Go.Proofs.Ythkemcekcfccpaa.PBrandCompares
open Go.RowKit Go.Proofs.YthkemcekcfccpaaW.PrintWords Go.Proofs.YthkemcekcfccpaaW.PrintLast Go.Proofs.YthkemcekcfccpaaW.PrintMore
open Go.Proofs.Ythkemcekcfccpaa.GBrandCompares
set_option linter.unusedVariables false
set_option linter.unusedSimpArgs false

/-- of two that can be keys: equal just if they are the same -/
theorem cmp_keys (a : Mk) : ∀ b : Mk, a.keys = true → b.keys = true → (a.cmp b = 1 ∧ a = b) ∨ (a.cmp b = 0 ∧ a ≠ b) := by
  induction a with
  | pair a c iha ihc =>
    intro b ha hb
    cases b with
    | pair x y =>
      simp only [Mk.keys, Bool.and_eq_true] at ha hb
      simp only [Mk.cmp]
      rcases iha x ha.1 hb.1 with ⟨h, rfl⟩ | ⟨h, hn⟩
      · rw [if_pos h]
        rcases ihc y ha.2 hb.2 with ⟨k, rfl⟩ | ⟨k, kn⟩
        · exact .inl ⟨k, rfl⟩
        · exact .inr ⟨k, fun e => kn (by injection e)⟩
      · rw [if_neg (by omega)]
        exact .inr ⟨h, fun e => hn (by injection e)⟩
    | _ => exact .inr ⟨rfl, fun e => by cases e⟩
  | row v => intro b ha; simp [Mk.keys] at ha
  | nothing => intro b _ hb; cases b <;> simp [Mk.cmp, Mk.keys] at *
  | number n =>
    intro b _ hb
    cases b with
    | number m =>
      simp only [Mk.cmp]
      by_cases h : n = m
      · subst h; simp
      · simp [h]
    | _ => exact .inr ⟨rfl, fun e => by cases e⟩
  | text n =>
    intro b _ hb
    cases b with
    | text m =>
      simp only [Mk.cmp]
      by_cases h : n = m
      · subst h; simp
      · simp [h]
    | _ => exact .inr ⟨rfl, fun e => by cases e⟩
  | refer n =>
    intro b _ hb
    cases b with
    | refer m =>
      simp only [Mk.cmp]
      by_cases h : n = m
      · subst h; simp
      · simp [h]
    | _ => exact .inr ⟨rfl, fun e => by cases e⟩

theorem same_bits (a : Mk) : ∀ n, a.keys = true → 2 * a.deep + 2 ≤ n → Instr.sameBits n a.val a.val = true := by
  induction a with
  | pair a b iha ihb =>
    intro n hk hn
    obtain ⟨n, rfl⟩ : ∃ m, n = m + 2 := ⟨n - 2, by omega⟩
    simp only [Mk.keys, Bool.and_eq_true] at hk
    simp only [Mk.deep] at hn
    have h1 := iha n hk.1 (by omega)
    have h2 := ihb n hk.2 (by omega)
    rw [show (Mk.pair a b).val = .iface 100 (.agg #[a.val, b.val]) from rfl]
    simp [Instr.sameBits, h1, h2]
  | row v => intro n hk; simp [Mk.keys] at hk
  | nothing =>
    intro n hk hn
    obtain ⟨n, rfl⟩ : ∃ m, n = m + 2 := ⟨n - 2, by omega⟩
    rw [show Mk.nothing.val = .iface 105 (.agg #[]) from rfl]
    simp [Instr.sameBits]
  | number k =>
    intro n hk hn
    obtain ⟨n, rfl⟩ : ∃ m, n = m + 2 := ⟨n - 2, by omega⟩
    rw [show (Mk.number k).val = .iface 96 (.int .i64 k) from rfl]
    simp [Instr.sameBits]
  | text k =>
    intro n hk hn
    obtain ⟨n, rfl⟩ : ∃ m, n = m + 2 := ⟨n - 2, by omega⟩
    rw [show (Mk.text k).val = .iface 97 (.string k) from rfl]
    simp [Instr.sameBits, (Go.MapKept.bytes_beq k k).mpr rfl]
  | refer k =>
    intro n hk hn
    obtain ⟨n, rfl⟩ : ∃ m, n = m + 2 := ⟨n - 2, by omega⟩
    rw [show (Mk.refer k).val = .iface 98 (.int .i64 k) from rfl]
    simp [Instr.sameBits]

/-- marks that can be keys of a map -/
def Key (a : Mk) : Prop := a.keys = true ∧ a.deep ≤ 16

theorem deep_enough' {n : Nat} (h : n ≤ 16) : 2 * n + 2 ≤ Op.maxDepth := by
  show _ ≤ 10000
  omega

/-- where a mark stands among the keys -/
def posMk (a : Mk) (ms : List Mk) : Option Nat := ms.findIdx? (fun m => a.cmp m == 1)

theorem find_asking (a : Mk) (ha : Key a) : ∀ (ms : List Mk) (l : List MapEntry) (i : Nat) (w : World), (∀ m ∈ ms, Key m) → l.map (·.key) = ms.map Mk.val →
    (Instr.findAsking 45 a.val l i).run Try.prog w = .ok ((posMk a ms).bind fun j => (l[j]?).map fun e => (i + j, e.val)) w := by
  intro ms
  induction ms with
  | nil =>
    intro l i w _ hl
    cases l with
    | nil => rfl
    | cons e l => simp at hl
  | cons m ms ih =>
    intro l i w hm hl
    cases l with
    | nil => simp at hl
    | cons e l =>
      simp only [List.map_cons, List.cons.injEq] at hl
      have hk := hm m (.head _)
      unfold Instr.findAsking
      rw [Sem.run_bind, Op.equal, hl.1, eq_marks a m _ w (deep_enough' ha.2)]
      unfold posMk
      rw [List.findIdx?_cons]
      rcases cmp_keys a m ha.1 hk.1 with ⟨h, _⟩ | ⟨h, _⟩
      · rw [h]
        simp [eqRes]
      · rw [h]
        simp only [eqRes, Result.andThen_ok, Bool.false_eq_true, if_false]
        rw [ih l (i + 1) w (fun m h => hm m (.tail _ h)) hl.2]
        unfold posMk
        simp only [show ((0 : Nat) == 1) = false from rfl, Bool.false_eq_true, if_false]
        cases ms.findIdx? (fun m => a.cmp m == 1) with
        | none => rfl
        | some j => simp [Nat.add_assoc, Nat.add_comm 1 j]

theorem find_now {ms : Array (String × TypeId)} {k : Value} {l : List MapEntry} {r : Option (Nat × Value)} (h : Instr.findNow (.interface ms) k l 0 = some r) : l = [] ∧ r = none := by
  cases l with
  | nil => simp [Instr.findNow] at h; exact ⟨rfl, h.symm⟩
  | cons e l => simp [Instr.findNow, Instr.sameNow] at h

theorem find_key (a : Mk) (ha : Key a) (ms : List Mk) (l : List MapEntry) (w : World) (hm : ∀ m ∈ ms, Key m) (hl : l.map (·.key) = ms.map Mk.val) :
    (Instr.findKey 45 a.val l).run Try.prog w = .ok ((posMk a ms).bind fun j => (l[j]?).map fun e => (j, e.val)) w := by
  unfold Instr.findKey
  rw [Sem.run_bind, run_underlying Try.underlying45, Result.andThen_ok]
  have hf := find_asking a ha ms l 0 w hm hl
  simp only [Nat.zero_add] at hf
  split
  · rename_i r h
    obtain ⟨rfl, rfl⟩ := find_now h
    cases ms with
    | nil => rfl
    | cons m ms => simp at hl
  · exact hf

theorem check_ok (a : Mk) (ha : Key a) (e : Bool) (w : World) : (Instr.checkKey e 10000 45 a.val).run Try.prog w = .ok () w := by
  rw [check_marks a e 10000 w (by have := ha.2; omega)]
  simp [checkRes, ha.1]

theorem posMk_lt {a : Mk} {ms : List Mk} {j : Nat} (h : posMk a ms = some j) : j < ms.length := by
  unfold posMk at h
  exact (List.findIdx?_eq_some_iff_getElem.1 h).1

theorem posMk_key {a : Mk} {ms : List Mk} {j : Nat} (ha : a.keys = true) (hm : ∀ m ∈ ms, m.keys = true) (h : posMk a ms = some j) : ms[j]? = some a := by
  unfold posMk at h
  obtain ⟨hl, hj, _⟩ := List.findIdx?_eq_some_iff_getElem.1 h
  rw [List.getElem?_eq_getElem hl]
  rcases cmp_keys a ms[j] ha (hm _ (List.getElem_mem hl)) with ⟨_, e⟩ | ⟨e, _⟩
  · rw [← e]
  · rw [e] at hj; simp at hj

section
variable {w : World} {r : Nat} {es : Array MapEntry} {clock : Nat} {ms : List Mk} {a : Mk}
/-- what stands under a mark, and whether anything does: 'zero' if nothing -/
def under (es : Array MapEntry) (z : Value) : Option Nat → Value × Bool
  | none => (z, false)
  | some j => match es[j]? with
    | some e => (e.val, true)
    | none => (z, false)

theorem run_lookup (t e : TypeId) (ht : Try.prog.underlying t = some (.map 45 e)) {i : TypeInfo} (hi : Try.prog.info? e = some i) {z : Value} (hz : i.zero = some z) (hb : w.heap[r]? = some (.map es clock)) (ha : Key a) (hm : ∀ m ∈ ms, Key m) (hl : es.toList.map (·.key) = ms.map Mk.val) (ok : Bool) :
    (Instr.lookup t (.map (some r)) a.val ok).run Try.prog w = .ok (if ok then .tuple #[(under es z (posMk a ms)).1, .bool (under es z (posMk a ms)).2] else (under es z (posMk a ms)).1) w := by
  unfold Instr.lookup
  rw [Sem.run_bind, run_underlying ht, Result.andThen_ok]
  simp only [Sem.run_bind, Go.MapKept.run_getObj_map hb, Result.andThen_ok, Sem.run_pure, check_ok a ha, find_key a ha ms es.toList _ hm hl]
  cases hp : posMk a ms with
  | none =>
    simp [under, zeroValue, typeInfo, hi, hz, Result.andThen]
  | some j =>
    have hj := posMk_lt hp
    have hle : ms.length = es.toList.length := by have := congrArg List.length hl; simpa using this.symm
    have hlt : j < es.size := by rw [hle] at hj; simpa using hj
    simp [under, hlt]

theorem run_put (t e : TypeId) (ht : Try.prog.underlying t = some (.map 45 e)) (hb : w.heap[r]? = some (.map es clock)) (ha : Key a) (hm : ∀ m ∈ ms, Key m) (hl : es.toList.map (·.key) = ms.map Mk.val) (v : Value) :
    (Instr.mapUpdate t (.map (some r)) a.val v).run Try.prog w = .ok () { w with heap := w.heap.setIfInBounds r (match posMk a ms with
      | none => .map (es.push { key := a.val, val := v, born := clock }) (clock + 1)
      | some j => .map (es.modify j fun e => { e with key := a.val, val := v }) clock) } := by
  unfold Instr.mapUpdate
  rw [Sem.run_bind, run_underlying ht, Result.andThen_ok]
  simp only [Sem.run_bind, Go.MapKept.run_getObj_map hb, Result.andThen_ok, Sem.run_pure, check_ok a ha, find_key a ha ms es.toList _ hm hl]
  cases hp : posMk a ms with
  | none =>
    simp only [Option.bind_none]
    exact Go.MapKept.run_setObj_map _ hb
  | some j =>
    have hj := posMk_lt hp
    have hle : ms.length = es.toList.length := by have := congrArg List.length hl; simpa using this.symm
    have hlt : j < es.size := by rw [hle] at hj; simpa using hj
    have hk := posMk_key ha.1 (fun m h => (hm m h).1) hp
    have hkey : es[j].key = a.val := by
      have := congrArg (fun l => l[j]?) hl
      simp only [List.getElem?_map, hk, Array.getElem?_toList, Array.getElem?_eq_getElem hlt, Option.map_some] at this
      exact Option.some.inj this
    simp only [Option.bind_some, Array.getElem?_toList, Array.getElem?_eq_getElem hlt, Option.map_some, Sem.run_bind, Option.getD_some]
    unfold Instr.keyThatStays
    rw [hkey, if_pos (same_bits a 10000 ha.1 (by have := ha.2; omega))]
    simp only [Sem.run_pure, Result.andThen_ok]
    exact Go.MapKept.run_setObj_map _ hb
end

end Go.Proofs.Ythkemcekcfccpaa.PBrandCompares
