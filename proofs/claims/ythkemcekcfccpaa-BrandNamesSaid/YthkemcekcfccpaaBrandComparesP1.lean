/- Marks in plain Lean: one value has one mark, but for what stands in rows. -/
import Derived.Test.YthkemcekcfccpaaBrandComparesT5
import Derived.Test.YthkemcekcfccpaaBrandComparesT4
import Derived.Test.YthkemcekcfccpaaBrandComparesL1
import Derived.Test.YthkemcekcfccpaaBrandComparesM3
namespace Go.Proofs.Ythkemcekcfccpaa.PBrandCompares
open Go.RowKit Go.Proofs.YthkemcekcfccpaaW.PrintWords Go.Proofs.YthkemcekcfccpaaW.PrintLast Go.Proofs.YthkemcekcfccpaaW.PrintMore
open Go.Proofs.Ythkemcekcfccpaa.GBrandCompares
set_option linter.unusedVariables false
set_option linter.unusedSimpArgs false

theorem mark_one (m : Mk) : ∀ (x : S27) (m' : Mk), MarkOf x m → MarkOf x m' → m.keys = m'.keys ∧ (m.keys = true → m' = m) := by
  induction m with
  | pair a b iha ihb =>
    intro x m' h h'
    obtain ⟨h3, y, z, hl, ha, hb⟩ := h
    cases m' with
    | pair a' b' =>
      obtain ⟨_, y', z', hl', ha', hb'⟩ := h'
      rw [hl] at hl'
      cases hl'
      have h1 := iha y a' ha ha'
      have h2 := ihb z b' hb hb'
      simp only [Mk.keys, h1.1, h2.1, Bool.and_eq_true]
      refine ⟨trivial, fun hk => ?_⟩
      rw [h1.2 (h1.1 ▸ hk.1), h2.2 (h2.1 ▸ hk.2)]
    | row v => exact absurd (by rw [hl]; rfl) h'.2
    | nothing => exact absurd h3 h'.2.2.2
    | number n => have := h'.1; omega
    | text s => have := h'.1; omega
    | refer r => have := h'.1; omega
  | row v =>
    intro x m' h h'
    cases m' with
    | row v' => exact ⟨rfl, fun hk => by simp [Mk.keys] at hk⟩
    | pair a b => obtain ⟨_, y, z, hl, _⟩ := h'; exact absurd (by rw [hl]; rfl) h.2
    | nothing => exact absurd h.1 h'.2.2.2
    | number n => have := h.1; have := h'.1; omega
    | text s => have := h.1; have := h'.1; omega
    | refer r => have := h.1; have := h'.1; omega
  | nothing =>
    intro x m' h h'
    cases m' with
    | nothing => exact ⟨rfl, fun _ => rfl⟩
    | row v => exact absurd h'.1 h.2.2.2
    | pair a b => exact absurd h'.1 h.2.2.2
    | number n => exact absurd h'.1 h.1
    | text s => exact absurd h'.1 h.2.1
    | refer r => exact absurd h'.1 h.2.2.1
  | number n =>
    intro x m' h h'
    cases m' with
    | number k => exact ⟨rfl, fun _ => by rw [h.2, h'.2]⟩
    | nothing => exact absurd h.1 h'.1
    | row v => have := h.1; have := h'.1; omega
    | pair a b => have := h.1; have := h'.1; omega
    | text s => have := h.1; have := h'.1; omega
    | refer r => have := h.1; have := h'.1; omega
  | text n =>
    intro x m' h h'
    cases m' with
    | text k => exact ⟨rfl, fun _ => by rw [h.2, h'.2]⟩
    | nothing => exact absurd h.1 h'.2.1
    | row v => have := h.1; have := h'.1; omega
    | pair a b => have := h.1; have := h'.1; omega
    | number s => have := h.1; have := h'.1; omega
    | refer r => have := h.1; have := h'.1; omega
  | refer n =>
    intro x m' h h'
    cases m' with
    | refer k => exact ⟨rfl, fun _ => by rw [h.2, h'.2]⟩
    | nothing => exact absurd h.1 h'.2.2.1
    | row v => have := h.1; have := h'.1; omega
    | pair a b => have := h.1; have := h'.1; omega
    | number s => have := h.1; have := h'.1; omega
    | text r => have := h.1; have := h'.1; omega

theorem mark_deep (m : Mk) : ∀ (x : S27) (n : Nat), MarkOf x m → Fit n x → m.deep ≤ n := by
  induction m with
  | pair a b iha ihb =>
    intro x n h hf
    obtain ⟨h3, y, z, hl, ha, hb⟩ := h
    cases n with
    | zero => exact absurd h3 hf
    | succ n =>
      have hy := (hf h3).2
      rw [hl] at hy
      have h1 := iha y n ha (hy y (by simp))
      have h2 := ihb z n hb (hy z (by simp))
      simp only [Mk.deep]
      omega
  | _ => intro x n _ _; exact Nat.zero_le _

/-- a value that can be a key -/
def KeyV (x : S27) : Prop := ∃ m, MarkOf x m ∧ m.keys = true

theorem key_mark {x : S27} (hm : mayV x = true) (h : KeyV x) : ∃ m, MarkOf x m ∧ Key m ∧ ∀ m2, MarkOf x m2 → m2 = m := by
  obtain ⟨m, h1, h2⟩ := h
  exact ⟨m, h1, ⟨h2, mark_deep m x 16 h1 (may_fit hm)⟩, fun m2 h3 => (mark_one m x m2 h1 h3).2 h2⟩
theorem no_key {x : S27} (h : ¬ KeyV x) (m : Mk) (h1 : MarkOf x m) : m.keys = false := by
  cases hk : m.keys with
  | false => rfl
  | true => exact absurd ⟨m, h1, hk⟩ h

/-- Put, whatever it is called with -/
def PutS (x y : S27) (g mb ob : Nat) (T : Nat → Prop) (rows : List Row) (came : Nat) (w : World) (e : Ending) (w' : World) : Prop :=
  (mayV x = false ∨ mayV y = false) ∧ e = .returned (.tuple #[zval, .bool false, .int .i64 2]) ∧ Ex (fun _ => False) w w' ∨
  (mayV x = true ∧ mayV y = true) ∧ ¬ KeyV x ∧ e = .returned (.tuple #[zval, .bool false, .int .i64 40]) ∧ Ex (fun _ => False) w w' ∨
  (mayV x = true ∧ mayV y = true) ∧ Ex (fun b => b = g ∨ b = mb ∨ b = ob) w w' ∧ ∃ m, MarkOf x m ∧ Key m ∧
    ((m ∉ rows.map (·.m) ∧ e = .returned (.tuple #[zval, .bool false, .int .i64 0]) ∧ ∃ r : Row, r.m = m ∧ r.k = x ∧ r.v = y ∧ r.n = came + 1 ∧ Tab w' g mb ob (fun b => T b ∨ w.heap.size ≤ b) (rows ++ [r]) (came + 1)) ∨
     (∃ (j : Nat) (r : Row), rows[j]? = some r ∧ r.m = m ∧ e = .returned (.tuple #[.agg #[.int .u8 r.v.f0, .int .i64 r.v.f1, .string r.v.f2, .slice r.B r.v.f3.length r.cb, .int .i64 r.v.f4], .bool true, .int .i64 0]) ∧ Kd.F k27 w' T r.B r.v.f3.length r.v.f3 ∧
        ∃ B d, Tab w' g mb ob (fun b => T b ∨ w.heap.size ≤ b) (rows.set j (r.turn y B d)) came))

theorem put_calls (x y : S27) (A B : Option Addr) (c d g mb ob : Nat) (T ok : Nat → Prop) (rows : List Row) (came : Nat) (w : World) (h : Tab w g mb ob T rows came) (hcame : came < 1000000000) (hc : x.f3.length ≤ c) (hd : y.f3.length ≤ d)
    (hF : Kd.F k27 w ok A x.f3.length x.f3) (hF2 : Kd.F k27 w ok B y.f3.length y.f3) (hok : ∀ b, ok b → ¬ T b) : PUT x y A B c d g w (PutS x y g mb ob T rows came w) := by
  cases hm : mayV x with
  | false => exact (put_arg1 x y A B c d g mb _ _ w ok h.hg hF hF2 hm).mono (fun e w' he => .inl ⟨.inl hm, he.1, he.2⟩)
  | true =>
    cases hn : mayV y with
    | false => exact (put_arg2 x y A B c d g mb _ _ w ok h.hg hF hF2 hm hn).mono (fun e w' he => .inl ⟨.inr hn, he.1, he.2⟩)
    | true =>
      by_cases hk : KeyV x
      · obtain ⟨m, h1, h2, h3⟩ := key_mark hm hk
        cases hp : posMk m (rows.map (·.m)) with
        | none =>
          refine (put_new x y A B c d g mb ob T ok rows came w h hcame hc hd hF hF2 hok hm hn m h3 h2 hp).mono (fun e w' he => .inr (.inr ⟨⟨hm, hn⟩, he.2.1, m, h1, h2, .inl ⟨?_, he.1, he.2.2⟩⟩))
          exact fun hmem => posMk_none h2.1 hp m hmem rfl
        | some j =>
          have hj := posMk_key h2.1 (fun m h' => (h.key_all m h').1) hp
          rw [List.getElem?_map] at hj
          cases hr : rows[j]? with
          | none => rw [hr] at hj; simp at hj
          | some r =>
            rw [hr] at hj
            have hrm : r.m = m := by simpa using hj
            exact (put_old x y A B c d g mb ob T ok rows came w h hcame hc hd hF hF2 hok hm hn m h3 h2 j r hp hr hrm).mono (fun e w' he => .inr (.inr ⟨⟨hm, hn⟩, he.2.1, m, h1, h2, .inr ⟨j, r, hr, hrm, he.1, he.2.2.1, he.2.2.2⟩⟩))
      · exact (put_key x y A B c d g mb _ _ w ok h.hg hF hF2 hm hn (no_key hk)).mono (fun e w' he => .inr (.inl ⟨⟨hm, hn⟩, hk, he.1, he.2⟩))

/-- a new table -/
theorem tab_new (w : World) : Tab (((w.alloc (.map #[] 0)).alloc (.map #[] 0)).alloc (.cells #[.map (some w.heap.size), .map (some (w.heap.size + 1)), .int .i64 0] 66)) (w.heap.size + 2) w.heap.size (w.heap.size + 1) (fun b => w.heap.size ≤ b) [] 0 where
  hg := blk_new3 _ _ _ _
  hm := ⟨#[], 0, blk_alloc (blk_alloc (blk_new1 _ _) _) _, rfl⟩
  ho := ⟨#[], 0, blk_alloc (blk_new2 _ _ _) _, rfl⟩
  good := by simp
  tg := by omega
  tm := Nat.le_refl _
  tb := by omega
  ne := by omega
  nums := by simp
  marks := .nil
  cames := .nil

set_option maxRecDepth 10000 in
theorem len_calls (g mb ob : Nat) (T : Nat → Prop) (rows : List Row) (came : Nat) (w : World) (h : Tab w g mb ob T rows came) : Calls Try.prog 17 #[.pointer (some ⟨g, 0, none⟩)] w fun e w' => e = .returned (.int .i64 rows.length) ∧ w' = w := by
  have HG := Aside0.mk h.hg
  obtain ⟨es, cl, hmb, hes⟩ := h.hm
  have hl : es.size = rows.length := by have := congrArg List.length hes; simpa using this
  have c0 := (blk_cell HG.out 0).trans rfl
  have hln : ∀ ty, (Builtin.len_ #[63] ty #[.map (some mb)]).run Try.prog w = .ok (.int .i64 rows.length) w := fun ty => by
    rw [← hl]
    simp [Builtin.len_, run_underlying Try.underlying63, run_getObj_map w mb es cl hmb]
    rfl
  have HLN := Aside0.mk hln
  clear h hes hmb hl hln
  go_enter Try.func17, Try.ntmps17
  go_wp2_with fail
  refine (none_no g mb _ _ _ HG.out).mono ?_
  rintro e w1 ⟨rfl, rfl⟩
  have hln := HLN.out 3
  go_wp2_with fail
  go_ret
  exact ⟨rfl, rfl⟩

end Go.Proofs.Ythkemcekcfccpaa.PBrandCompares
