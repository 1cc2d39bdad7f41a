/- Marks as a type of Lean's own (Mk): which value of the model each is; what the model's == of two of them comes to (cmp), and which can be keys (keys); which mark a value has (MarkOf). -/
import Derived.Test.YthkemcekcfccpaaPBrandComparesx0
import Derived.Test.YthkemcekcfccpaaBrandComparesG1
import Derived.Test.YthkemcekcfccpaaBrandComparesH1
namespace Go.Proofs.Ythkemcekcfccpaa.PBrandCompares
open Go.RowKit Go.Proofs.YthkemcekcfccpaaW.PrintWords Go.Proofs.YthkemcekcfccpaaW.PrintLast Go.Proofs.YthkemcekcfccpaaW.PrintMore
open Go.Proofs.Ythkemcekcfccpaa.GBrandCompares
set_option linter.unusedVariables false
set_option linter.unusedSimpArgs false

inductive Mk where
  | nothing
  | number (n : Int)
  | text (s : ByteArray)
  | refer (r : Int)
  | pair (a b : Mk)
  | row (v : Value)

def Mk.val : Mk → Value
  | .nothing => .iface 105 (.agg #[])
  | .number n => .iface 96 (.int .i64 n)
  | .text s => .iface 97 (.string s)
  | .refer r => .iface 98 (.int .i64 r)
  | .pair a b => .iface 100 (.agg #[a.val, b.val])
  | .row v => .iface 103 (.agg #[v])

theorem Mk.cells_val (m : Mk) : m.val.cells = #[m.val] := by cases m <;> rfl

def Mk.deep : Mk → Nat
  | .pair a b => max a.deep b.deep + 1
  | _ => 0

/-- 0: unlike; 1: equal; 2: it panics -/
def Mk.cmp : Mk → Mk → Nat
  | .nothing, .nothing => 1
  | .number a, .number b => if a = b then 1 else 0
  | .text a, .text b => if a = b then 1 else 0
  | .refer a, .refer b => if a = b then 1 else 0
  | .pair a b, .pair c d => if a.cmp c = 1 then b.cmp d else a.cmp c
  | .row _, .row _ => 2
  | _, _ => 0

def Mk.keys : Mk → Bool
  | .pair a b => a.keys && b.keys
  | .row _ => false
  | _ => true

noncomputable def eqRes (c : Nat) (w : World) : Result Bool :=
  match c with
  | 0 => .ok false w
  | 1 => .ok true w
  | _ => .halt (.panic (.iface 10 (strVal "comparing uncomparable type brand.row"))) w

theorem cmp_lt (a : Mk) : ∀ b : Mk, a.cmp b ≤ 2 := by
  induction a with
  | pair a c iha ihc =>
    intro b
    cases b <;> simp [Mk.cmp]
    split
    · exact ihc _
    · exact iha _
  | _ =>
    intro b
    cases b <;> simp [Mk.cmp] <;> split <;> omega

def MarkOf : S27 → Mk → Prop
  | x, .nothing => x.f0 ≠ 1 ∧ x.f0 ≠ 2 ∧ x.f0 ≠ 4 ∧ x.f0 ≠ 3
  | x, .number n => x.f0 = 1 ∧ n = x.f1
  | x, .text s => x.f0 = 2 ∧ s = x.f2
  | x, .refer r => x.f0 = 4 ∧ r = x.f4
  | x, .pair a b => x.f0 = 3 ∧ ∃ y z, x.f3 = [y, z] ∧ MarkOf y a ∧ MarkOf z b
  | x, .row _ => x.f0 = 3 ∧ x.f3.length ≠ 2

theorem Mk.val_iface (m : Mk) : ∃ t v, m.val = .iface t v := by cases m <;> exact ⟨_, _, rfl⟩

theorem inf {t : TypeId} {c : Bool} {s : String} (h : (Try.prog.info? t).map (fun i => (i.comparable, i.str)) = some (c, s)) : ∃ i, Try.prog.info? t = some i ∧ i.comparable = c ∧ i.str = s := by
  generalize Try.prog.info? t = o at h
  cases o with
  | none => cases h
  | some i => exact ⟨i, rfl, (Prod.mk.inj (Option.some.inj h)).1, (Prod.mk.inj (Option.some.inj h)).2⟩
theorem info103 : (Try.prog.info? 103).map (fun i => (i.comparable, i.str)) = some (false, "brand.row") := by kernel_rfl
theorem info96 : (Try.prog.info? 96).map (fun i => (i.comparable, i.str)) = some (true, "brand.number") := by kernel_rfl
theorem info97 : (Try.prog.info? 97).map (fun i => (i.comparable, i.str)) = some (true, "brand.text") := by kernel_rfl
theorem info98 : (Try.prog.info? 98).map (fun i => (i.comparable, i.str)) = some (true, "brand.reference") := by kernel_rfl
theorem info100 : (Try.prog.info? 100).map (fun i => (i.comparable, i.str)) = some (true, "brand.pair") := by kernel_rfl
theorem info105 : (Try.prog.info? 105).map (fun i => (i.comparable, i.str)) = some (true, "brand.nothing") := by kernel_rfl
theorem rt_err : Try.prog.rt.errorString = 10 := by kernel_rfl
theorem rt_hash : Try.prog.rt.unhashableTypeError = 19 := by kernel_rfl
theorem nopack : Try.prog.holdsPacked Try.prog.depth 103 = false := by kernel_rfl
theorem nostood100 : Try.prog.stoodInHeld 100 = false := by kernel_rfl
theorem nostood105 : Try.prog.stoodInHeld 105 = false := by kernel_rfl

theorem eq_marks (a : Mk) : ∀ (b : Mk) (d : Nat) (w : World), 2 * a.deep + 2 ≤ d → (Op.equalIn d 45 a.val b.val).run Try.prog w = eqRes (a.cmp b) w := by
  induction a with
  | nothing =>
    intro b d w hd
    obtain ⟨d, rfl⟩ : ∃ m, d = m + 2 := ⟨d - 2, by omega⟩
    obtain ⟨i, hi, hc, _⟩ := inf info105
    cases b with
    | nothing =>
      rw [show Mk.nothing.val = .iface 105 (.agg #[]) from rfl, eq_same Try.underlying45 hi hc, eq_struct0 Try.underlying105 nostood105]
      rfl
    | _ => exact eq_unlike Try.underlying45 (by decide) _ _ _ _
  | number n =>
    intro b d w hd
    obtain ⟨d, rfl⟩ : ∃ m, d = m + 2 := ⟨d - 2, by omega⟩
    obtain ⟨i, hi, hc, _⟩ := inf info96
    cases b with
    | number m =>
      rw [show (Mk.number n).val = .iface 96 (.int .i64 n) from rfl, show (Mk.number m).val = .iface 96 (.int .i64 m) from rfl, eq_same Try.underlying45 hi hc, eq_int Try.underlying96]
      simp only [Mk.cmp]
      by_cases h : n = m
      · subst h; simp [eqRes]
      · simp [h, eqRes]
    | _ => exact eq_unlike Try.underlying45 (by decide) _ _ _ _
  | text n =>
    intro b d w hd
    obtain ⟨d, rfl⟩ : ∃ m, d = m + 2 := ⟨d - 2, by omega⟩
    obtain ⟨i, hi, hc, _⟩ := inf info97
    cases b with
    | text m =>
      rw [show (Mk.text n).val = .iface 97 (.string n) from rfl, show (Mk.text m).val = .iface 97 (.string m) from rfl, eq_same Try.underlying45 hi hc, eq_string Try.underlying97]
      simp only [Mk.cmp]
      by_cases h : n = m
      · rw [if_pos h, (Go.MapKept.bytes_beq n m).mpr h]; rfl
      · rw [if_neg h, show (n == m) = false from by rw [Bool.eq_false_iff]; exact fun e => h ((Go.MapKept.bytes_beq n m).mp e)]; rfl
    | _ => exact eq_unlike Try.underlying45 (by decide) _ _ _ _
  | refer n =>
    intro b d w hd
    obtain ⟨d, rfl⟩ : ∃ m, d = m + 2 := ⟨d - 2, by omega⟩
    obtain ⟨i, hi, hc, _⟩ := inf info98
    cases b with
    | refer m =>
      rw [show (Mk.refer n).val = .iface 98 (.int .i64 n) from rfl, show (Mk.refer m).val = .iface 98 (.int .i64 m) from rfl, eq_same Try.underlying45 hi hc, eq_int Try.underlying98]
      simp only [Mk.cmp]
      by_cases h : n = m
      · subst h; simp [eqRes]
      · simp [h, eqRes]
    | _ => exact eq_unlike Try.underlying45 (by decide) _ _ _ _
  | row v =>
    intro b d w hd
    obtain ⟨d, rfl⟩ : ∃ m, d = m + 2 := ⟨d - 2, by omega⟩
    obtain ⟨i, hi, hc, hs⟩ := inf info103
    cases b with
    | row m =>
      rw [show (Mk.row v).val = .iface 103 (.agg #[v]) from rfl, show (Mk.row m).val = .iface 103 (.agg #[m]) from rfl, eq_panics Try.underlying45 hi hc nopack (by rw [hs]; decide) rt_err, hs]
      rfl
    | _ => exact eq_unlike Try.underlying45 (by decide) _ _ _ _
  | pair x y ihx ihy =>
    intro b d w hd
    obtain ⟨d, rfl⟩ : ∃ m, d = m + 2 := ⟨d - 2, by omega⟩
    obtain ⟨i, hi, hc, hs⟩ := inf info100
    cases b with
    | pair u v =>
      have h1 : 2 * x.deep + 2 ≤ d := by simp only [Mk.deep] at hd; omega
      have h2 : 2 * y.deep + 2 ≤ d := by simp only [Mk.deep] at hd; omega
      rw [show (Mk.pair x y).val = .iface 100 (.agg #[x.val, y.val]) from rfl, show (Mk.pair u v).val = .iface 100 (.agg #[u.val, v.val]) from rfl, eq_same Try.underlying45 hi hc,
        eq_struct2 Try.underlying100 nostood100 Try.underlying45 (by simp) (by simp) rfl rfl rfl rfl, ihx u d w h1]
      simp only [Mk.cmp]
      have hl := cmp_lt x u
      have : x.cmp u = 0 ∨ x.cmp u = 1 ∨ x.cmp u = 2 := by omega
      rcases this with h | h | h
      · rw [h]; rfl
      · rw [h]; simp only [eqRes, if_true]; exact ihy v d w h2
      · rw [h]; rfl
    | _ => exact eq_unlike Try.underlying45 (by decide) _ _ _ _

/-- what a key's check comes to -/
noncomputable def checkRes (e k : Bool) (w : World) : Result Unit :=
  if k then .ok () w else if e then .halt (.panic (.iface 19 (.agg #[typeHandle Try.prog 103]))) w else .halt (.panic (.iface 10 (strVal "hash of unhashable type brand.row"))) w

theorem check_marks (a : Mk) : ∀ (e : Bool) (d : Nat) (w : World), 2 * a.deep + 2 ≤ d → (Instr.checkKey e d 45 a.val).run Try.prog w = checkRes e a.keys w := by
  induction a with
  | nothing =>
    intro e d w hd
    obtain ⟨d, rfl⟩ : ∃ m, d = m + 2 := ⟨d - 2, by omega⟩
    obtain ⟨i, hi, hc, _⟩ := inf info105
    rw [show Mk.nothing.val = .iface 105 (.agg #[]) from rfl, check_same Try.underlying45 hi hc, check_struct0 Try.underlying105]
    rfl
  | number n =>
    intro e d w hd
    obtain ⟨d, rfl⟩ : ∃ m, d = m + 2 := ⟨d - 2, by omega⟩
    obtain ⟨i, hi, hc, _⟩ := inf info96
    rw [show (Mk.number n).val = .iface 96 (.int .i64 n) from rfl, check_same Try.underlying45 hi hc, check_int Try.underlying96]
    rfl
  | text n =>
    intro e d w hd
    obtain ⟨d, rfl⟩ : ∃ m, d = m + 2 := ⟨d - 2, by omega⟩
    obtain ⟨i, hi, hc, _⟩ := inf info97
    rw [show (Mk.text n).val = .iface 97 (.string n) from rfl, check_same Try.underlying45 hi hc, check_string Try.underlying97]
    rfl
  | refer n =>
    intro e d w hd
    obtain ⟨d, rfl⟩ : ∃ m, d = m + 2 := ⟨d - 2, by omega⟩
    obtain ⟨i, hi, hc, _⟩ := inf info98
    rw [show (Mk.refer n).val = .iface 98 (.int .i64 n) from rfl, check_same Try.underlying45 hi hc, check_int Try.underlying98]
    rfl
  | row v =>
    intro e d w hd
    obtain ⟨d, rfl⟩ : ∃ m, d = m + 2 := ⟨d - 2, by omega⟩
    obtain ⟨i, hi, hc, hs⟩ := inf info103
    rw [show (Mk.row v).val = .iface 103 (.agg #[v]) from rfl]
    cases e
    · rw [check_full Try.underlying45 hi hc (by rw [hs]; decide) rt_err, hs]; rfl
    · rw [check_empty Try.underlying45 hi hc rt_hash]; rfl
  | pair x y ihx ihy =>
    intro e d w hd
    obtain ⟨d, rfl⟩ : ∃ m, d = m + 2 := ⟨d - 2, by omega⟩
    obtain ⟨i, hi, hc, hs⟩ := inf info100
    have h1 : 2 * x.deep + 2 ≤ d := by simp only [Mk.deep] at hd; omega
    have h2 : 2 * y.deep + 2 ≤ d := by simp only [Mk.deep] at hd; omega
    rw [show (Mk.pair x y).val = .iface 100 (.agg #[x.val, y.val]) from rfl, check_same Try.underlying45 hi hc,
      check_struct2 Try.underlying100 Try.underlying45 (by simp) (by simp) rfl rfl rfl rfl, ihx e d w h1]
    simp only [Mk.keys]
    cases h : x.keys
    · cases e <;> rfl
    · simp only [checkRes, if_true, Bool.true_and]; exact ihy e d w h2
end Go.Proofs.Ythkemcekcfccpaa.PBrandCompares
