/- Lemmas for R5. -/
import Derived.WalkKit
import Derived.Deep.Draws
import Derived.Lib.Hide
import Derived.Test.YthkemcekcfccpaaBrandComparesR5Px0
import Derived.Laws.Rows
import Derived.Laws.ResultCell
import Derived.MapKept
import Derived.Test.YthkemcekcfccpaaBrandComparesR5WLast
import Derived.Deep.RegionHeld3
import Derived.RangeFuncBox
import Derived.Deep.RegionLaw
import Derived.Defers
import Derived.Recover
section
namespace Go.Proofs.Ythkemcekcfccpaa.GBrandCompares
open Go.RowKit
structure Ex (S : Nat → Prop) (w w' : World) : Prop where
  os : w'.os = w.os
  tape : w'.tape = w.tape
  output : w'.output = w.output
  size : w.heap.size ≤ w'.heap.size
  block : ∀ b, b < w.heap.size → ¬ S b → w'.heap[b]? = w.heap[b]?
namespace Ex
variable {S S2 : Nat → Prop} {w w1 w2 : World}
theorem refl (S : Nat → Prop) (w : World) : Ex S w w := ⟨rfl, rfl, rfl, Nat.le_refl _, fun _ _ _ => rfl⟩
theorem trans (h : Ex S w w1) (k : Ex S2 w1 w2) (hs : ∀ b, S2 b → S b ∨ w.heap.size ≤ b) : Ex S w w2 :=
  ⟨k.os.trans h.os, k.tape.trans h.tape, k.output.trans h.output, Nat.le_trans h.size k.size, fun b hb hn =>
    (k.block b (Nat.lt_of_lt_of_le hb h.size) (fun h2 => (hs b h2).elim hn (fun h3 => absurd hb (Nat.not_lt.2 h3)))).trans (h.block b hb hn)⟩
theorem mono (h : Ex S w w1) (hs : ∀ b, S b → S2 b) : Ex S2 w w1 := ⟨h.os, h.tape, h.output, h.size, fun b hb hn => h.block b hb (fun h1 => hn (hs b h1))⟩
theorem alloc (h : Ex S w w1) (o : Obj) : Ex S w (w1.alloc o) :=
  h.trans (S2 := fun _ => False) ⟨rfl, rfl, rfl, by simp, fun b hb _ => Below.heap_alloc w1 o b hb⟩ (fun _ h => h.elim)
theorem set (h : Ex S w w1) {p : Addr} (hp : S p.block ∨ w.heap.size ≤ p.block) (u : Value) : Ex S w (w1.setCell p u) :=
  h.trans (S2 := fun b => b = p.block) ⟨rfl, rfl, rfl, by simp [World.setCell], fun b _ hn => Below.heap_setCell w1 p u b hn⟩ (fun b hb => hb ▸ hp)
theorem drew (h : Ex S w w1) : Ex S w w1.drew := ⟨h.os, h.tape, h.output, h.size, h.block⟩
theorem drewN (h : Ex S w w1) (n : Nat) : Ex S w (w1.drewN n) := ⟨h.os, h.tape, h.output, h.size, h.block⟩
theorem of_below (h : Below w.heap.size w w1) : Ex S w w1 := ⟨h.os, h.tape, h.output, h.size, fun b hb _ => h.block b hb⟩
theorem below {n : Nat} (h : Ex S w w1) (hn : n ≤ w.heap.size) (hs : ∀ b, S b → n ≤ b) : Below n w w1 :=
  ⟨h.os, h.tape, h.output, h.size, fun b hb => h.block b (Nat.lt_of_lt_of_le hb hn) (fun h1 => absurd hb (Nat.not_lt.2 (hs b h1)))⟩
theorem then_below (h : Ex S w w1) (k : Below w1.heap.size w1 w2) : Ex S w w2 := h.trans (S2 := fun _ => False) (of_below k) (fun _ h => h.elim)
theorem blk (h : Ex S w w1) {b : Nat} {o : Obj} (hb : w.heap[b]? = some o) (hn : ¬ S b) : w1.heap[b]? = some o :=
  (h.block b (Array.getElem?_eq_some_iff.1 hb).1 hn).trans hb
theorem cell (h : Ex S w w1) {b : Nat} (hb : b < w.heap.size) (hn : ¬ S b) (i : Nat) : w1.cell? ⟨b, i, none⟩ = w.cell? ⟨b, i, none⟩ := by
  simp only [World.cell?, h.block b hb hn]
theorem frozen (h : Ex S w w1) {b : Nat} (hb : b < w.heap.size) (hn : ¬ S b) (i : Nat) : w1.frozen? ⟨b, i, none⟩ = w.frozen? ⟨b, i, none⟩ := by
  simp only [World.frozen?, h.block b hb hn]
theorem cells (h : Ex (fun _ => False) w w1) : (∀ b i, b < w.heap.size → w1.cell? ⟨b, i, none⟩ = w.cell? ⟨b, i, none⟩) ∧ (∀ b i, b < w.heap.size → w1.frozen? ⟨b, i, none⟩ = w.frozen? ⟨b, i, none⟩) :=
  ⟨fun _ i hb => h.cell hb (fun h => h.elim) i, fun _ i hb => h.frozen hb (fun h => h.elim) i⟩
end Ex
theorem lt_of_blk {w : World} {b : Nat} {o : Obj} (h : w.heap[b]? = some o) : b < w.heap.size := (Array.getElem?_eq_some_iff.1 h).1
theorem blk_new1 (w : World) (o : Obj) : (w.alloc o).heap[w.heap.size]? = some o := heap_alloc_new w o
theorem blk_new2 (w : World) (o1 o2 : Obj) : ((w.alloc o1).alloc o2).heap[w.heap.size + 1]? = some o2 := by
  rw [show w.heap.size + 1 = (w.alloc o1).heap.size by simp]; exact heap_alloc_new _ _
theorem blk_new3 (w : World) (o1 o2 o3 : Obj) : (((w.alloc o1).alloc o2).alloc o3).heap[w.heap.size + 2]? = some o3 := by
  rw [show w.heap.size + 2 = ((w.alloc o1).alloc o2).heap.size by simp]; exact heap_alloc_new _ _
end Go.Proofs.Ythkemcekcfccpaa.GBrandCompares
end
section
namespace Go.Proofs.Ythkemcekcfccpaa.PBrandCompares
open Go.RowKit Go.Proofs.YthkemcekcfccpaaW.PrintWords Go.Proofs.YthkemcekcfccpaaW.PrintLast Go.Proofs.YthkemcekcfccpaaW.PrintMore
set_option linter.unusedVariables false
set_option linter.unusedSimpArgs false
mutual
def takeV : S27 → Int → Int → Bool × Int × Int
  | ⟨k, n, s, l, r⟩, p, d =>
    if p = 0 then (false, p, d)
    else if k = 0 then (decide (n = 0 ∧ s.size = 0 ∧ r = 0 ∧ l.length = 0), p - 1, d)
    else if k = 1 then (decide (s.size = 0 ∧ r = 0 ∧ l.length = 0), p - 1, d)
    else if k = 2 then (if 256 < s.size then (false, p - 1, d) else (decide (n = 0 ∧ r = 0 ∧ l.length = 0), p - 1, d))
    else if k = 4 then (if r < 1 then (false, p - 1, d) else (decide (n = 0 ∧ s.size = 0 ∧ l.length = 0), p - 1, d))
    else if k = 3 then
      (if d = 0 ∨ p - 1 < (l.length : Int) then (false, p - 1, d) else
        match takeL l (p - 1) (d - 1) with
        | (false, p', d') => (false, p', d')
        | (true, p', d') => (decide (n = 0 ∧ s.size = 0 ∧ r = 0), p', d' + 1))
    else (false, p - 1, d)
def takeL : List S27 → Int → Int → Bool × Int × Int
  | [], p, d => (true, p, d)
  | x :: l, p, d =>
    match takeV x p d with
    | (false, p', d') => (false, p', d')
    | (true, p', d') => takeL l p' d'
end
def measureV (x : S27) : Int := if (takeV x 512 16).1 then 512 - (takeV x 512 16).2.1 else 0
def mayV (x : S27) : Bool := decide (0 < measureV x)
theorem rd_mem {xs : List S27} {i : Nat} (h : i < xs.length) : rd_T27 xs (i : Int) ∈ xs := by
  unfold rd_T27
  rw [Int.toNat_natCast, List.getD_eq_getElem?_getD, List.getElem?_eq_getElem h]
  exact List.getElem_mem h
theorem rd_drop {xs : List S27} {i : Nat} (h : i < xs.length) : xs.drop i = rd_T27 xs (i : Int) :: xs.drop (i + 1) := by
  unfold rd_T27
  rw [Int.toNat_natCast, List.getD_eq_getElem?_getD, List.getElem?_eq_getElem h]
  exact List.drop_eq_getElem_cons h
theorem take_bounds (n : Nat) : (∀ x : S27, SizeOf.sizeOf x ≤ n → ∀ p d, 0 ≤ p → 0 ≤ d → 0 ≤ (takeV x p d).2.1 ∧ (takeV x p d).2.1 ≤ p ∧ 0 ≤ (takeV x p d).2.2 ∧ (takeV x p d).2.2 ≤ d ∧ ((takeV x p d).1 = true → (takeV x p d).2.2 = d)) ∧
    (∀ l : List S27, SizeOf.sizeOf l ≤ n → ∀ p d, 0 ≤ p → 0 ≤ d → 0 ≤ (takeL l p d).2.1 ∧ (takeL l p d).2.1 ≤ p ∧ 0 ≤ (takeL l p d).2.2 ∧ (takeL l p d).2.2 ≤ d ∧ ((takeL l p d).1 = true → (takeL l p d).2.2 = d)) := by
  induction n with
  | zero =>
    refine ⟨fun x hx => ?_, fun l hl => ?_⟩
    · cases x; simp at hx
    · cases l <;> simp at hl
  | succ n ih =>
    refine ⟨fun x hx p d hp hd => ?_, fun l hl p d hp hd => ?_⟩
    · obtain ⟨k, m, s, l, r⟩ := x
      have hl : SizeOf.sizeOf l ≤ n := by simp at hx; omega
      unfold takeV
      have hs : ∀ (b : Bool) (q : Int), 0 ≤ q → q ≤ p → 0 ≤ ((b, q, d) : Bool × Int × Int).2.1 ∧ ((b, q, d) : Bool × Int × Int).2.1 ≤ p ∧ 0 ≤ ((b, q, d) : Bool × Int × Int).2.2 ∧ ((b, q, d) : Bool × Int × Int).2.2 ≤ d ∧ (((b, q, d) : Bool × Int × Int).1 = true → ((b, q, d) : Bool × Int × Int).2.2 = d) :=
        fun b q h1 h2 => ⟨h1, h2, hd, Int.le_refl _, fun _ => rfl⟩
      split
      · exact hs _ _ hp (Int.le_refl _)
      split
      · exact hs _ _ (by omega) (by omega)
      split
      · exact hs _ _ (by omega) (by omega)
      split
      · split <;> exact hs _ _ (by omega) (by omega)
      split
      · split <;> exact hs _ _ (by omega) (by omega)
      split
      · split
        · exact hs _ _ (by omega) (by omega)
        · rename_i h1
          have hd1 : 0 ≤ d - 1 := by omega
          have hb := ih.2 l hl (p - 1) (d - 1) (by omega) hd1
          generalize takeL l (p - 1) (d - 1) = t at hb
          obtain ⟨b, p', d'⟩ := t
          dsimp only at hb
          cases b
          · exact ⟨hb.1, by have := hb.2.1; dsimp only; omega, hb.2.2.1, by have := hb.2.2.2.1; dsimp only; omega, fun h => by simp at h⟩
          · have h5 := hb.2.2.2.2 rfl
            have h2 := hb.2.1
            refine ⟨hb.1, by dsimp only; omega, by dsimp only; omega, by dsimp only; omega, fun h => by dsimp only; omega⟩
      · exact hs _ _ (by omega) (by omega)
    · cases l with
      | nil => simp [takeL]; omega
      | cons x l =>
        have hx : SizeOf.sizeOf x ≤ n := by simp at hl; omega
        have hl : SizeOf.sizeOf l ≤ n := by simp at hl; omega
        unfold takeL
        have hb := ih.1 x hx p d hp hd
        generalize takeV x p d = t at hb
        obtain ⟨b, p', d'⟩ := t
        dsimp only at hb
        cases b
        · exact ⟨hb.1, hb.2.1, hb.2.2.1, hb.2.2.2.1, fun h => by simp at h⟩
        · have h5 := hb.2.2.2.2 rfl
          have hc := ih.2 l hl p' d' hb.1 hb.2.2.1
          exact ⟨hc.1, by have := hc.2.1; dsimp only; omega, hc.2.2.1, by have := hc.2.2.2.1; dsimp only; omega, fun h => by have := hc.2.2.2.2 h; dsimp only; omega⟩
theorem takeV_bounds (x : S27) {p d : Int} (hp : 0 ≤ p) (hd : 0 ≤ d) : 0 ≤ (takeV x p d).2.1 ∧ (takeV x p d).2.1 ≤ p ∧ 0 ≤ (takeV x p d).2.2 ∧ (takeV x p d).2.2 ≤ d ∧ ((takeV x p d).1 = true → (takeV x p d).2.2 = d) :=
  (take_bounds (SizeOf.sizeOf x)).1 x (Nat.le_refl _) p d hp hd
end Go.Proofs.Ythkemcekcfccpaa.PBrandCompares
end
section
namespace Go.Proofs.Ythkemcekcfccpaa.PBrandCompares
open Go.RowKit Go.Proofs.YthkemcekcfccpaaW.PrintWords Go.Proofs.YthkemcekcfccpaaW.PrintLast Go.Proofs.YthkemcekcfccpaaW.PrintMore
open Go.Proofs.Ythkemcekcfccpaa.GBrandCompares
set_option linter.unusedVariables false
set_option linter.unusedSimpArgs false
theorem toList_nil (s : ByteArray) : s.toList = [] ↔ s.size = 0 := by
  rw [ByteArray.toList_eq]
  obtain ⟨⟨l⟩⟩ := s
  cases l <;> simp [ByteArray.size]
theorem dec_nil (l : List S27) : decide (l = []) = ((l.length : Int) == 0) := by cases l <;> simp <;> omega
theorem takeV_0 {x : S27} {p d : Int} (hp : ¬ p = 0) (hk : x.f0 = 0) : takeV x p d = (decide (x.f1 = 0 ∧ x.f2.size = 0 ∧ x.f4 = 0 ∧ x.f3.length = 0), p - 1, d) := by
  cases x; simp only at hk; simp [takeV, hp, hk]; try rfl
theorem takeV_1 {x : S27} {p d : Int} (hp : ¬ p = 0) (hk : x.f0 = 1) : takeV x p d = (decide (x.f2.size = 0 ∧ x.f4 = 0 ∧ x.f3.length = 0), p - 1, d) := by
  cases x; simp only at hk; simp [takeV, hp, hk]; try rfl
theorem takeV_2 {x : S27} {p d : Int} (hp : ¬ p = 0) (hk : x.f0 = 2) : takeV x p d = (if 256 < x.f2.size then (false, p - 1, d) else (decide (x.f1 = 0 ∧ x.f4 = 0 ∧ x.f3.length = 0), p - 1, d)) := by
  cases x; simp only at hk; simp [takeV, hp, hk]; try rfl
theorem takeV_4 {x : S27} {p d : Int} (hp : ¬ p = 0) (hk : x.f0 = 4) : takeV x p d = (if x.f4 < 1 then (false, p - 1, d) else (decide (x.f1 = 0 ∧ x.f2.size = 0 ∧ x.f3.length = 0), p - 1, d)) := by
  cases x; simp only at hk; simp [takeV, hp, hk]; try rfl
theorem takeV_3 {x : S27} {p d : Int} (hp : ¬ p = 0) (hk : x.f0 = 3) : takeV x p d = (if d = 0 ∨ p - 1 < (x.f3.length : Int) then (false, p - 1, d) else
        match takeL x.f3 (p - 1) (d - 1) with
        | (false, p', d') => (false, p', d')
        | (true, p', d') => (decide (x.f1 = 0 ∧ x.f2.size = 0 ∧ x.f4 = 0), p', d' + 1)) := by
  cases x; simp only at hk; simp [takeV, hp, hk]; try rfl
theorem takeV_5 {x : S27} {p d : Int} (hp : ¬ p = 0) (h0 : ¬ x.f0 = 0) (h1 : ¬ x.f0 = 1) (h2 : ¬ x.f0 = 2) (h4 : ¬ x.f0 = 4) (h3 : ¬ x.f0 = 3) : takeV x p d = (false, p - 1, d) := by
  cases x; simp only at h0 h1 h2 h3 h4; simp [takeV, hp, h0, h1, h2, h3, h4]
theorem takeV_z {x : S27} {p d : Int} (hp : p = 0) : takeV x p d = (false, p, d) := by
  cases x; simp [takeV, hp]
theorem at_F27 {w : World} {ok : Nat → Prop} {A : Option Addr} {n : Nat} {xs : List S27} (h : Kd.F k27 w ok A n xs) (k : Nat) (hk : k < n) :
    ∃ ad A3 c3, A = some ad ∧ w.cell? (ad.add (k * 5)) = some (.int .u8 (rd_T27 xs k).f0) ∧ w.cell? ⟨(ad.add (k * 5)).block, (ad.add (k * 5)).off + 1, none⟩ = some (.int .i64 (rd_T27 xs k).f1) ∧
      w.cell? ⟨(ad.add (k * 5)).block, (ad.add (k * 5)).off + 2, none⟩ = some (.string (rd_T27 xs k).f2) ∧ w.cell? ⟨(ad.add (k * 5)).block, (ad.add (k * 5)).off + 3, none⟩ = some (.slice A3 (rd_T27 xs k).f3.length c3) ∧
      w.cell? ⟨(ad.add (k * 5)).block, (ad.add (k * 5)).off + 4, none⟩ = some (.int .i64 (rd_T27 xs k).f4) ∧ (rd_T27 xs k).f3.length ≤ c3 ∧ Kd.F k27 w ok A3 (rd_T27 xs k).f3.length (rd_T27 xs k).f3 := by
  obtain ⟨ad, c, rfl, _, hK, hc, _⟩ := Kd.F_get h z27 (k : Int) (by omega) (by omega)
  obtain ⟨A3, c3, rfl, l3, g3⟩ := k27_openF hK
  exact ⟨ad, A3, c3, rfl, hc 0 _ rfl, by rw [← add_field _ _ 1 (by omega)]; exact hc 1 _ rfl, by rw [← add_field _ _ 2 (by omega)]; exact hc 2 _ rfl,
    by rw [← add_field _ _ 3 (by omega)]; exact hc 3 _ rfl, by rw [← add_field _ _ 4 (by omega)]; exact hc 4 _ rfl, l3, g3⟩
theorem ex_F {S ok : Nat → Prop} {w w1 : World} {α : Type} {d : Kd α} {A : Option Addr} {n : Nat} {xs : List α} (h : Ex S w w1) (hf : Kd.F d w ok A n xs) (hs : ∀ k, ok k → ¬ S k) : Kd.F d w1 ok A n xs :=
  Kd.F_step hf (fun k hk hlt => h.block k hlt (hs k hk))
def Left (g : Nat) (t : Bool × Int × Int) (w : World) (e : Ending) (w' : World) : Prop :=
  e = .returned (.bool t.1) ∧ Ex (fun b => b = g) w w' ∧ w'.heap[g]? = some (.cells #[.int .i64 t.2.1, .int .i64 t.2.2] 108 (0, 0))
theorem left_mk {g : Nat} {t : Bool × Int × Int} {w W : World} {b : Bool} {q d : Int} (ht : t = (b, q, d)) (hx : Ex (fun b => b = g) w W) (hg : W.heap[g]? = some (.cells #[.int .i64 q, .int .i64 d] 108 (0, 0))) :
    Left g t w (.returned (.bool b)) W := by
  subst ht
  exact ⟨rfl, hx, hg⟩
theorem left_now {g : Nat} {t : Bool × Int × Int} {w : World} {b : Bool} {p q d : Int} (hg : w.heap[g]? = some (.cells #[.int .i64 p, .int .i64 d] 108 (0, 0))) (o1 o2 : Obj) (ht : t = (b, q, d)) :
    Left g t w (.returned (.bool b)) (((w.setCell ⟨g, 0, none⟩ (.int .i64 q)).alloc o1).alloc o2) := by
  subst ht
  exact ⟨rfl, (((Ex.refl (fun b => b = g) w).set (p := ⟨g, 0, none⟩) (.inl rfl) _).alloc _).alloc _, blk_alloc (blk_alloc (blk_put hg 0 _ rfl) _) _⟩
theorem left_nowN {g : Nat} {t : Bool × Int × Int} {w : World} {b : Bool} {p q d : Int} (hg : w.heap[g]? = some (.cells #[.int .i64 p, .int .i64 d] 108 (0, 0))) (o1 o2 : Obj) (n : Nat) (ht : t = (b, q, d)) :
    Left g t w (.returned (.bool b)) ((((w.setCell ⟨g, 0, none⟩ (.int .i64 q)).alloc o1).alloc o2).drewN n) := by
  subst ht
  exact ⟨rfl, ((((Ex.refl (fun b => b = g) w).set (p := ⟨g, 0, none⟩) (.inl rfl) _).alloc _).alloc _).drewN _, blk_drewN (blk_alloc (blk_alloc (blk_put hg 0 _ rfl) _) _) _⟩
set_option maxHeartbeats 400000 in
theorem take_z (x : S27) (p d : Int) (A : Option Addr) (c : Nat) (w : World) (g : Nat) (hp : p = 0)
    (hg : w.heap[g]? = some (.cells #[.int .i64 p, .int .i64 d] 108 (0, 0))) :
    Calls Try.prog 55 #[.pointer (some ⟨g, 0, none⟩), .agg #[.int .u8 x.f0, .int .i64 x.f1, .string x.f2, .slice A x.f3.length c, .int .i64 x.f4]] w (Left g (takeV x p d) w) := by
  have hc0 : w.cell? ⟨g, 0, none⟩ = some (.int .i64 p) := (blk_cell hg 0).trans rfl
  have hlt := lt_of_blk hg
  have hp0 : (p == 0) = true := by simp; omega
  have HG := Aside0.mk hg
  have HT := Aside0.mk (takeV_z (x := x) (p := p) (d := d) hp)
  clear hg hp
  go_enter Try.func55, Try.ntmps55
  go_wp2
  go_ret
  exact left_mk HT.out ((Ex.refl (fun b => b = g) w).alloc _) (blk_alloc HG.out _)
set_option maxHeartbeats 400000 in
theorem take_0 (x : S27) (p d : Int) (A : Option Addr) (c : Nat) (w : World) (g : Nat) (hp : 0 < p) (hp2 : p ≤ 512) (hk : x.f0 = 0)
    (hg : w.heap[g]? = some (.cells #[.int .i64 p, .int .i64 d] 108 (0, 0))) :
    Calls Try.prog 55 #[.pointer (some ⟨g, 0, none⟩), .agg #[.int .u8 x.f0, .int .i64 x.f1, .string x.f2, .slice A x.f3.length c, .int .i64 x.f4]] w (Left g (takeV x p d) w) := by
  have hc0 : w.cell? ⟨g, 0, none⟩ = some (.int .i64 p) := (blk_cell hg 0).trans rfl
  have hf0 := blk_frozen hg 0
  have hlt := lt_of_blk hg
  have hp0 : (p == 0) = false := by simp; omega
  have HG := Aside0.mk hg
  have HT := Aside0.mk ((takeV_0 (x := x) (p := p) (d := d) (by omega) hk))
  clear hg
  rw [hk]
  clear hk
  go_enter Try.func55, Try.ntmps55
  go_wp2
  all_goals
    go_ret
    refine left_now HG.out _ _ (HT.out.trans ?_)
    clear HG HT hc0 hf0 hlt
    simp_all [toList_nil, dec_nil]
set_option maxHeartbeats 400000 in
theorem take_1 (x : S27) (p d : Int) (A : Option Addr) (c : Nat) (w : World) (g : Nat) (hp : 0 < p) (hp2 : p ≤ 512) (hk : x.f0 = 1)
    (hg : w.heap[g]? = some (.cells #[.int .i64 p, .int .i64 d] 108 (0, 0))) :
    Calls Try.prog 55 #[.pointer (some ⟨g, 0, none⟩), .agg #[.int .u8 x.f0, .int .i64 x.f1, .string x.f2, .slice A x.f3.length c, .int .i64 x.f4]] w (Left g (takeV x p d) w) := by
  have hc0 : w.cell? ⟨g, 0, none⟩ = some (.int .i64 p) := (blk_cell hg 0).trans rfl
  have hf0 := blk_frozen hg 0
  have hlt := lt_of_blk hg
  have hp0 : (p == 0) = false := by simp; omega
  have HG := Aside0.mk hg
  have HT := Aside0.mk ((takeV_1 (x := x) (p := p) (d := d) (by omega) hk))
  clear hg
  rw [hk]
  clear hk
  go_enter Try.func55, Try.ntmps55
  go_wp2
  all_goals
    go_ret
    refine left_now HG.out _ _ (HT.out.trans ?_)
    clear HG HT hc0 hf0 hlt
    simp_all [toList_nil, dec_nil]
set_option maxHeartbeats 400000 in
theorem take_2 (x : S27) (p d : Int) (A : Option Addr) (c : Nat) (w : World) (g : Nat) (hp : 0 < p) (hp2 : p ≤ 512) (hk : x.f0 = 2) (hs : ¬ 256 < x.f2.size)
    (hg : w.heap[g]? = some (.cells #[.int .i64 p, .int .i64 d] 108 (0, 0))) :
    Calls Try.prog 55 #[.pointer (some ⟨g, 0, none⟩), .agg #[.int .u8 x.f0, .int .i64 x.f1, .string x.f2, .slice A x.f3.length c, .int .i64 x.f4]] w (Left g (takeV x p d) w) := by
  have hc0 : w.cell? ⟨g, 0, none⟩ = some (.int .i64 p) := (blk_cell hg 0).trans rfl
  have hf0 := blk_frozen hg 0
  have hlt := lt_of_blk hg
  have hp0 : (p == 0) = false := by simp; omega
  have HG := Aside0.mk hg
  have HT := Aside0.mk ((takeV_2 (x := x) (p := p) (d := d) (by omega) hk).trans (if_neg hs))
  clear hg
  rw [hk]
  clear hk
  have hs2 : decide ((x.f2.size : Int) > 256) = false := by simp; omega
  go_enter Try.func55, Try.ntmps55
  go_wp2
  all_goals
    go_ret
    refine left_now HG.out _ _ (HT.out.trans ?_)
    clear HG HT hc0 hf0 hlt
    simp_all [toList_nil, dec_nil]
set_option maxHeartbeats 400000 in
theorem take_2b (x : S27) (p d : Int) (A : Option Addr) (c : Nat) (w : World) (g : Nat) (hp : 0 < p) (hp2 : p ≤ 512) (hk : x.f0 = 2) (hs : 256 < x.f2.size)
    (hg : w.heap[g]? = some (.cells #[.int .i64 p, .int .i64 d] 108 (0, 0))) :
    Calls Try.prog 55 #[.pointer (some ⟨g, 0, none⟩), .agg #[.int .u8 x.f0, .int .i64 x.f1, .string x.f2, .slice A x.f3.length c, .int .i64 x.f4]] w (Left g (takeV x p d) w) := by
  have hc0 : w.cell? ⟨g, 0, none⟩ = some (.int .i64 p) := (blk_cell hg 0).trans rfl
  have hf0 := blk_frozen hg 0
  have hlt := lt_of_blk hg
  have hp0 : (p == 0) = false := by simp; omega
  have HG := Aside0.mk hg
  have HT := Aside0.mk ((takeV_2 (x := x) (p := p) (d := d) (by omega) hk).trans (if_pos hs))
  clear hg
  rw [hk]
  clear hk
  have hs2 : decide ((x.f2.size : Int) > 256) = true := by simp; omega
  go_enter Try.func55, Try.ntmps55
  go_wp2
  all_goals
    go_ret
    refine left_now HG.out _ _ (HT.out.trans ?_)
    clear HG HT hc0 hf0 hlt
    simp_all [toList_nil, dec_nil]
set_option maxHeartbeats 400000 in
theorem take_4 (x : S27) (p d : Int) (A : Option Addr) (c : Nat) (w : World) (g : Nat) (hp : 0 < p) (hp2 : p ≤ 512) (hk : x.f0 = 4) (hs : ¬ x.f4 < 1)
    (hg : w.heap[g]? = some (.cells #[.int .i64 p, .int .i64 d] 108 (0, 0))) :
    Calls Try.prog 55 #[.pointer (some ⟨g, 0, none⟩), .agg #[.int .u8 x.f0, .int .i64 x.f1, .string x.f2, .slice A x.f3.length c, .int .i64 x.f4]] w (Left g (takeV x p d) w) := by
  have hc0 : w.cell? ⟨g, 0, none⟩ = some (.int .i64 p) := (blk_cell hg 0).trans rfl
  have hf0 := blk_frozen hg 0
  have hlt := lt_of_blk hg
  have hp0 : (p == 0) = false := by simp; omega
  have HG := Aside0.mk hg
  have HT := Aside0.mk ((takeV_4 (x := x) (p := p) (d := d) (by omega) hk).trans (if_neg hs))
  clear hg
  rw [hk]
  clear hk
  have hs2 : decide (x.f4 < 1) = false := by simp; omega
  go_enter Try.func55, Try.ntmps55
  go_wp2
  all_goals
    go_ret
    refine left_now HG.out _ _ (HT.out.trans ?_)
    clear HG HT hc0 hf0 hlt
    simp_all [toList_nil, dec_nil]
set_option maxHeartbeats 400000 in
theorem take_4b (x : S27) (p d : Int) (A : Option Addr) (c : Nat) (w : World) (g : Nat) (hp : 0 < p) (hp2 : p ≤ 512) (hk : x.f0 = 4) (hs : x.f4 < 1)
    (hg : w.heap[g]? = some (.cells #[.int .i64 p, .int .i64 d] 108 (0, 0))) :
    Calls Try.prog 55 #[.pointer (some ⟨g, 0, none⟩), .agg #[.int .u8 x.f0, .int .i64 x.f1, .string x.f2, .slice A x.f3.length c, .int .i64 x.f4]] w (Left g (takeV x p d) w) := by
  have hc0 : w.cell? ⟨g, 0, none⟩ = some (.int .i64 p) := (blk_cell hg 0).trans rfl
  have hf0 := blk_frozen hg 0
  have hlt := lt_of_blk hg
  have hp0 : (p == 0) = false := by simp; omega
  have HG := Aside0.mk hg
  have HT := Aside0.mk ((takeV_4 (x := x) (p := p) (d := d) (by omega) hk).trans (if_pos hs))
  clear hg
  rw [hk]
  clear hk
  have hs2 : decide (x.f4 < 1) = true := by simp; omega
  go_enter Try.func55, Try.ntmps55
  go_wp2
  all_goals
    go_ret
    refine left_now HG.out _ _ (HT.out.trans ?_)
    clear HG HT hc0 hf0 hlt
    simp_all [toList_nil, dec_nil]
set_option maxHeartbeats 400000 in
theorem take_5 (x : S27) (p d : Int) (A : Option Addr) (c : Nat) (w : World) (g : Nat) (hp : 0 < p) (hp2 : p ≤ 512) (h0 : ¬ x.f0 = 0) (h1 : ¬ x.f0 = 1) (h2 : ¬ x.f0 = 2) (h4 : ¬ x.f0 = 4) (h3 : ¬ x.f0 = 3)
    (hg : w.heap[g]? = some (.cells #[.int .i64 p, .int .i64 d] 108 (0, 0))) :
    Calls Try.prog 55 #[.pointer (some ⟨g, 0, none⟩), .agg #[.int .u8 x.f0, .int .i64 x.f1, .string x.f2, .slice A x.f3.length c, .int .i64 x.f4]] w (Left g (takeV x p d) w) := by
  have hc0 : w.cell? ⟨g, 0, none⟩ = some (.int .i64 p) := (blk_cell hg 0).trans rfl
  have hf0 := blk_frozen hg 0
  have hlt := lt_of_blk hg
  have hp0 : (p == 0) = false := by simp; omega
  have HG := Aside0.mk hg
  have HT := Aside0.mk ((takeV_5 (x := x) (p := p) (d := d) (by omega) h0 h1 h2 h4 h3))
  clear hg
  have b0 : (x.f0 == 0) = false := by simp; omega
  have b1 : (x.f0 == 1) = false := by simp; omega
  have b2 : (x.f0 == 2) = false := by simp; omega
  have b4 : (x.f0 == 4) = false := by simp; omega
  have b3 : (x.f0 == 3) = false := by simp; omega
  clear h0 h1 h2 h3 h4
  go_enter Try.func55, Try.ntmps55
  go_wp2
  all_goals
    go_ret
    refine left_now HG.out _ _ (HT.out.trans ?_)
    clear HG HT hc0 hf0 hlt
    simp_all [toList_nil, dec_nil]
end Go.Proofs.Ythkemcekcfccpaa.PBrandCompares
end
section
namespace Go.Proofs.Ythkemcekcfccpaa.PBrandCompares
open Go.RowKit Go.Proofs.YthkemcekcfccpaaW.PrintWords Go.Proofs.YthkemcekcfccpaaW.PrintLast Go.Proofs.YthkemcekcfccpaaW.PrintMore
open Go.Proofs.Ythkemcekcfccpaa.GBrandCompares
set_option linter.unusedVariables false
set_option linter.unusedSimpArgs false
theorem S27.ind {p : S27 → Prop} (h : ∀ x : S27, (∀ y ∈ x.f3, p y) → p x) : ∀ x, p x := by
  have key : ∀ (n : Nat) (x : S27), SizeOf.sizeOf x ≤ n → p x := by
    intro n
    induction n with
    | zero => intro x hx; cases x; simp at hx
    | succ n ih =>
      intro x hx
      refine h x fun y hy => ih y ?_
      have hs := List.sizeOf_lt_of_mem hy
      cases x
      simp at hx hs ⊢
      omega
  exact fun x => key _ x (Nat.le_refl _)
mutual
def nodes : S27 → Nat
  | ⟨_, _, _, l, _⟩ => nodesL l + 1
def nodesL : List S27 → Nat
  | [] => 0
  | x :: l => nodes x + nodesL l
end
mutual
def nest : S27 → Nat
  | ⟨k, _, _, l, _⟩ => if k = 3 then nestL l + 1 else 0
def nestL : List S27 → Nat
  | [] => 0
  | x :: l => max (nest x) (nestL l)
end
def Field (x : S27) : Prop :=
  x.f0 = 0 ∧ x.f1 = 0 ∧ x.f2.size = 0 ∧ x.f3.length = 0 ∧ x.f4 = 0 ∨ x.f0 = 1 ∧ x.f2.size = 0 ∧ x.f3.length = 0 ∧ x.f4 = 0 ∨
  x.f0 = 2 ∧ x.f1 = 0 ∧ x.f2.size ≤ 256 ∧ x.f3.length = 0 ∧ x.f4 = 0 ∨ x.f0 = 3 ∧ x.f1 = 0 ∧ x.f2.size = 0 ∧ x.f4 = 0 ∨ x.f0 = 4 ∧ x.f1 = 0 ∧ x.f2.size = 0 ∧ x.f3.length = 0 ∧ 1 ≤ x.f4
inductive Fields : S27 → Prop
  | mk {x : S27} : Field x → (∀ y ∈ x.f3, Fields y) → Fields x
theorem Fields.now {x : S27} (h : Fields x) : Field x := by cases h; assumption
theorem Fields.sub {x y : S27} (h : Fields x) (hy : y ∈ x.f3) : Fields y := by cases h with | mk _ h => exact h y hy
theorem nodes_eq (x : S27) : nodes x = nodesL x.f3 + 1 := by cases x; rfl
theorem nodes_pos (x : S27) : 1 ≤ nodes x := by rw [nodes_eq]; omega
theorem nest_list {x : S27} (h : x.f0 = 3) : nest x = nestL x.f3 + 1 := by cases x; simp only at h; simp [nest, h]
theorem nest_plain {x : S27} (h : x.f0 ≠ 3) : nest x = 0 := by cases x; simp only at h; simp [nest, h]
theorem nodesL_len (l : List S27) : l.length ≤ nodesL l := by
  induction l with
  | nil => simp
  | cons x l ih => have := nodes_pos x; simp only [List.length_cons, nodesL]; omega
theorem nestL_le {l : List S27} {d : Nat} : nestL l ≤ d ↔ ∀ y ∈ l, nest y ≤ d := by
  induction l with
  | nil => simp [nestL]
  | cons x l ih => simp only [nestL, Nat.max_le, ih, List.mem_cons, forall_eq_or_imp]
theorem nodesL_mem {l : List S27} {y : S27} (h : y ∈ l) : nodes y ≤ nodesL l := by
  induction l with
  | nil => simp at h
  | cons x l ih =>
    simp only [nodesL]
    rcases List.mem_cons.1 h with rfl | h
    · omega
    · have := ih h; omega
def Takes (x : S27) (p d : Int) : Prop := (nodes x : Int) ≤ p ∧ (nest x : Int) ≤ d ∧ Fields x
def TakesL (l : List S27) (p d : Int) : Prop := (nodesL l : Int) ≤ p ∧ (nestL l : Int) ≤ d ∧ ∀ y ∈ l, Fields y
theorem take_iff (n : Nat) : (∀ x : S27, SizeOf.sizeOf x ≤ n → ∀ p d, 0 ≤ p → 0 ≤ d → ((takeV x p d).1 = true ↔ Takes x p d) ∧ ((takeV x p d).1 = true → (takeV x p d).2.1 = p - nodes x)) ∧
    (∀ l : List S27, SizeOf.sizeOf l ≤ n → ∀ p d, 0 ≤ p → 0 ≤ d → ((takeL l p d).1 = true ↔ TakesL l p d) ∧ ((takeL l p d).1 = true → (takeL l p d).2.1 = p - nodesL l)) := by
  induction n with
  | zero =>
    refine ⟨fun x hx => ?_, fun l hl => ?_⟩
    · cases x; simp at hx
    · cases l <;> simp at hl
  | succ n ih =>
    refine ⟨fun x hx p d hp hd => ?_, fun l hl p d hp hd => ?_⟩
    · have hpos := nodes_pos x
      by_cases hz : p = 0
      · rw [takeV_z hz]
        refine ⟨⟨fun h => by simp at h, fun h => by have := h.1; omega⟩, fun h => by simp at h⟩
      have hleaf : ∀ b : Bool, x.f0 ≠ 3 → (b = true ↔ Field x) → (b = true → x.f3.length = 0) → ((b = true ↔ Takes x p d) ∧ (b = true → p - 1 = p - (nodes x : Int))) := by
        intro b h3 hb hl0
        have hn : x.f3.length = 0 → nodes x = 1 := by
          intro h
          rw [nodes_eq, List.length_eq_zero_iff.1 h]; rfl
        refine ⟨⟨fun h => ?_, fun h => hb.2 h.2.2.now⟩, fun h => by rw [hn (hl0 h)]; rfl⟩
        refine ⟨by rw [hn (hl0 h)]; omega, by rw [nest_plain h3]; omega, .mk (hb.1 h) ?_⟩
        intro y hy
        rw [List.length_eq_zero_iff.1 (hl0 h)] at hy
        simp at hy
      by_cases h0 : x.f0 = 0
      · rw [takeV_0 hz h0]
        refine hleaf _ (by omega) ?_ ?_
        · simp only [decide_eq_true_eq]; unfold Field; omega
        · simp only [decide_eq_true_eq]; omega
      by_cases h1 : x.f0 = 1
      · rw [takeV_1 hz h1]
        refine hleaf _ (by omega) ?_ ?_
        · simp only [decide_eq_true_eq]; unfold Field; omega
        · simp only [decide_eq_true_eq]; omega
      by_cases h2 : x.f0 = 2
      · rw [takeV_2 hz h2]
        split
        · refine hleaf _ (by omega) ?_ (fun h => by simp at h)
          refine ⟨fun h => by simp at h, fun h => ?_⟩
          unfold Field at h; omega
        · refine hleaf _ (by omega) ?_ ?_
          · simp only [decide_eq_true_eq]; unfold Field; omega
          · simp only [decide_eq_true_eq]; omega
      by_cases h4 : x.f0 = 4
      · rw [takeV_4 hz h4]
        split
        · refine hleaf _ (by omega) ?_ (fun h => by simp at h)
          refine ⟨fun h => by simp at h, fun h => ?_⟩
          unfold Field at h; omega
        · refine hleaf _ (by omega) ?_ ?_
          · simp only [decide_eq_true_eq]; unfold Field; omega
          · simp only [decide_eq_true_eq]; omega
      by_cases h3 : x.f0 = 3
      · rw [takeV_3 hz h3]
        have hne := nest_list h3
        have hno := nodes_eq x
        have hll := nodesL_len x.f3
        split
        · rename_i h
          refine ⟨⟨fun h => by simp at h, fun ht => ?_⟩, fun h => by simp at h⟩
          have h1 := ht.1
          have h2 := ht.2.1
          rcases h with h | h <;> omega
        · rename_i h
          have hs : SizeOf.sizeOf x.f3 ≤ n := by cases x; simp at hx ⊢; omega
          have h := ih.2 x.f3 hs (p - 1) (d - 1) (by omega) (by omega)
          generalize takeL x.f3 (p - 1) (d - 1) = t at h
          obtain ⟨b, p', d'⟩ := t
          dsimp only at h
          cases b
          · refine ⟨⟨fun h => by simp at h, fun ht => ?_⟩, fun h => by simp at h⟩
            have := h.1.2 ⟨by have := ht.1; omega, by have := ht.2.1; omega, fun y hy => ht.2.2.sub hy⟩
            simp at this
          · have ht := h.1.1 rfl
            have hp' := h.2 rfl
            dsimp only
            refine ⟨⟨fun hf => ⟨by have := ht.1; omega, by have := ht.2.1; omega, .mk ?_ ht.2.2⟩, fun hT => ?_⟩, fun _ => by omega⟩
            · simp only [decide_eq_true_eq] at hf; unfold Field; omega
            · have := hT.2.2.now
              simp only [decide_eq_true_eq]; unfold Field at this; omega
      · rw [takeV_5 hz h0 h1 h2 h4 h3]
        refine hleaf _ h3 ⟨fun h => by simp at h, fun h => ?_⟩ (fun h => by simp at h)
        unfold Field at h; omega
    · cases l with
      | nil => simp [takeL, TakesL, nodesL, nestL, hp, hd]
      | cons x l =>
        have hx : SizeOf.sizeOf x ≤ n := by simp at hl; omega
        have hl : SizeOf.sizeOf l ≤ n := by simp at hl; omega
        unfold takeL
        have hb := takeV_bounds x hp hd
        have h1 := ih.1 x hx p d hp hd
        generalize takeV x p d = t at hb h1
        obtain ⟨b, p', d'⟩ := t
        dsimp only at hb h1
        cases b
        · refine ⟨⟨fun h => by simp at h, fun ht => ?_⟩, fun h => by simp at h⟩
          have := h1.1.2 ⟨by have := ht.1; simp only [nodesL] at this; omega, by have := ht.2.1; simp only [nestL] at this; omega, ht.2.2 x (.head _)⟩
          simp at this
        · have h5 := hb.2.2.2.2 rfl
          subst h5
          have h2 := ih.2 l hl p' d' hb.1 hb.2.2.1
          have hq := h1.2 rfl
          have ht1 := h1.1.1 rfl
          dsimp only
          refine ⟨⟨fun h => ?_, fun ht => h2.1.2 ⟨by have := ht.1; simp only [nodesL] at this; omega, by have := ht.2.1; simp only [nestL] at this; omega, fun y hy => ht.2.2 y (.tail _ hy)⟩⟩, fun h => ?_⟩
          · have ht2 := h2.1.1 h
            refine ⟨by have := ht2.1; have := ht1.1; simp only [nodesL]; omega, by have := ht2.2.1; have := ht1.2.1; simp only [nestL]; omega, fun y hy => ?_⟩
            rcases List.mem_cons.1 hy with rfl | hy
            · exact ht1.2.2
            · exact ht2.2.2 y hy
          · have := h2.2 h; simp only [nodesL]; omega
theorem may_iff (x : S27) : mayV x = true ↔ nodes x ≤ 512 ∧ nest x ≤ 16 ∧ Fields x := by
  have h := (take_iff _).1 x (Nat.le_refl _) 512 16 (by omega) (by omega)
  have hpos := nodes_pos x
  simp only [mayV, measureV, decide_eq_true_eq]
  split
  · rename_i ht
    have h2 := h.2 ht
    have h1 := h.1.1 ht
    have := h1.1
    have := h1.2.1
    refine ⟨fun _ => ⟨by omega, by omega, h1.2.2⟩, fun _ => ?_⟩
    rw [decide_eq_true_eq]; omega
  · rename_i ht
    refine ⟨fun h => by rw [decide_eq_true_eq] at h; omega, fun hm => absurd (h.1.2 ⟨by have := hm.1; omega, by have := hm.2.1; omega, hm.2.2⟩) ht⟩
inductive Wf : S27 → Prop
  | mk {x : S27} : 0 ≤ x.f0 → x.f0 < 256 → x.f3.length ≤ 9223372036854775807 → (∀ y ∈ x.f3, Wf y) → Wf x
theorem Wf.lo {x : S27} (h : Wf x) : 0 ≤ x.f0 := by cases h; assumption
theorem Wf.hi {x : S27} (h : Wf x) : x.f0 < 256 := by cases h; assumption
theorem Wf.len {x : S27} (h : Wf x) : x.f3.length ≤ 9223372036854775807 := by cases h; assumption
theorem Wf.sub {x y : S27} (h : Wf x) (hy : y ∈ x.f3) : Wf y := by cases h with | mk _ _ _ h => exact h y hy
theorem Wf.rd {x : S27} (h : Wf x) {i : Nat} (hi : i < x.f3.length) : Wf (rd_T27 x.f3 i) := h.sub (rd_mem hi)
theorem wf_may {x : S27} : Fields x → nodes x ≤ 512 → Wf x := by
  induction x using S27.ind with
  | h x ih =>
    intro hf hn
    have h := hf.now
    have hl := nodesL_len x.f3
    rw [nodes_eq] at hn
    refine .mk (by unfold Field at h; omega) (by unfold Field at h; omega) (by omega) fun y hy => ih y hy (hf.sub hy) ?_
    have := nodesL_mem hy
    omega
end Go.Proofs.Ythkemcekcfccpaa.PBrandCompares
end
section
namespace Go.Proofs.Ythkemcekcfccpaa.GBrandCompares
variable {P : Program}
theorem eq_same {t tx : TypeId} {ms : Array (String × TypeId)} {i : TypeInfo} (ht : P.underlying t = some (.interface ms)) (hi : P.info? tx = some i) (hc : i.comparable = true) (d : Nat) (x y : Value) (w : World) :
    (Op.equalIn (d + 1) t (.iface tx x) (.iface tx y)).run P w = (Op.equalIn d tx x y).run P w := by
  simp [Op.equalIn, run_underlying ht, typeInfo, hi, hc]
theorem eq_unlike {t tx ty : TypeId} {ms : Array (String × TypeId)} (ht : P.underlying t = some (.interface ms)) (hne : tx ≠ ty) (d : Nat) (x y : Value) (w : World) :
    (Op.equalIn (d + 1) t (.iface tx x) (.iface ty y)).run P w = .ok false w := by
  simp [Op.equalIn, run_underlying ht, hne]
theorem eq_panics {t tx : TypeId} {ms : Array (String × TypeId)} {i : TypeInfo} (ht : P.underlying t = some (.interface ms)) (hi : P.info? tx = some i) (hc : i.comparable = false) (hp : P.holdsPacked P.depth tx = false) (hs : i.str ≠ "")
    {e : TypeId} (he : P.rt.errorString = e) (d : Nat) (x y : Value) (w : World) :
    (Op.equalIn (d + 1) t (.iface tx x) (.iface tx y)).run P w = .halt (.panic (.iface e (strVal ("comparing uncomparable type " ++ i.str)))) w := by
  simp [Op.equalIn, run_underlying ht, typeInfo, hi, hc, hp, typeStr, hs, runtimePanic, he, goPanic]
theorem eq_int {t : TypeId} {k : IntKind} (ht : P.underlying t = some (.int k)) (d : Nat) (q : IntKind) (a b : Int) (w : World) :
    (Op.equalIn (d + 1) t (.int q a) (.int q b)).run P w = .ok (a == b) w := by
  simp [Op.equalIn, run_underlying ht]
theorem eq_string {t : TypeId} (ht : P.underlying t = some .string) (d : Nat) (a b : ByteArray) (w : World) :
    (Op.equalIn (d + 1) t (.string a) (.string b)).run P w = .ok (a == b) w := by
  simp [Op.equalIn, run_underlying ht]
theorem eq_struct0 {t : TypeId} (ht : P.underlying t = some (.struct #[])) (hs : P.stoodInHeld t = false) (d : Nat) (w : World) :
    (Op.equalIn (d + 1) t (.agg #[]) (.agg #[])).run P w = .ok true w := by
  simp [Op.equalIn, run_underlying ht, hs]
theorem eq_struct2 {t e : TypeId} {f0 f1 : Field} {ms : Array (String × TypeId)} (ht : P.underlying t = some (.struct #[f0, f1])) (hs : P.stoodInHeld t = false) (he : P.underlying e = some (.interface ms))
    (n0 : (f0.name = "_") = False) (n1 : (f1.name = "_") = False) (t0 : f0.type = e) (t1 : f1.type = e) (o0 : f0.offset = 0) (o1 : f1.offset = 1) (d : Nat) (a b a' b' : Value) (w : World) :
    (Op.equalIn (d + 1) t (.agg #[a, b]) (.agg #[a', b'])).run P w = match (Op.equalIn d e a a').run P w with
      | .ok true w' => (Op.equalIn d e b b').run P w'
      | .ok false w' => .ok false w'
      | .halt h w' => .halt h w' := by
  simp [Op.equalIn, run_underlying ht, run_underlying he, hs, n0, n1, t0, t1, o0, o1, part, isAgg, Sem.run_bind]
  cases (Op.equalIn d e a a').run P w with
  | halt h w' => simp
  | ok r w' =>
    cases r
    · simp
    · simp
      cases (Op.equalIn d e b b').run P w' with
      | halt h w' => simp
      | ok r w' => cases r <;> simp
theorem check_same {t tx : TypeId} {ms : Array (String × TypeId)} {i : TypeInfo} (ht : P.underlying t = some (.interface ms)) (hi : P.info? tx = some i) (hc : i.comparable = true) (e : Bool) (d : Nat) (x : Value) (w : World) :
    (Instr.checkKey e (d + 1) t (.iface tx x)).run P w = (Instr.checkKey e d tx x).run P w := by
  simp [Instr.checkKey, run_underlying ht, typeInfo, hi, hc]
theorem check_empty {t tx : TypeId} {ms : Array (String × TypeId)} {i : TypeInfo} (ht : P.underlying t = some (.interface ms)) (hi : P.info? tx = some i) (hc : i.comparable = false) {e : TypeId} (he : P.rt.unhashableTypeError = e) (d : Nat) (x : Value) (w : World) :
    (Instr.checkKey true (d + 1) t (.iface tx x)).run P w = .halt (.panic (.iface e (.agg #[typeHandle P tx]))) w := by
  simp [Instr.checkKey, run_underlying ht, typeInfo, hi, hc, runtimePanic, he, goPanic]
theorem check_full {t tx : TypeId} {ms : Array (String × TypeId)} {i : TypeInfo} (ht : P.underlying t = some (.interface ms)) (hi : P.info? tx = some i) (hc : i.comparable = false) (hs : i.str ≠ "")
    {e : TypeId} (he : P.rt.errorString = e) (d : Nat) (x : Value) (w : World) :
    (Instr.checkKey false (d + 1) t (.iface tx x)).run P w = .halt (.panic (.iface e (strVal ("hash of unhashable type " ++ i.str)))) w := by
  simp [Instr.checkKey, run_underlying ht, typeInfo, hi, hc, typeStr, hs, runtimePanic, he, goPanic]
theorem check_int {t : TypeId} {k : IntKind} (ht : P.underlying t = some (.int k)) (e : Bool) (d : Nat) (x : Value) (w : World) :
    (Instr.checkKey e (d + 1) t x).run P w = .ok () w := by
  simp [Instr.checkKey, run_underlying ht]
theorem check_string {t : TypeId} (ht : P.underlying t = some .string) (e : Bool) (d : Nat) (x : Value) (w : World) :
    (Instr.checkKey e (d + 1) t x).run P w = .ok () w := by
  simp [Instr.checkKey, run_underlying ht]
theorem check_struct0 {t : TypeId} (ht : P.underlying t = some (.struct #[])) (e : Bool) (d : Nat) (w : World) :
    (Instr.checkKey e (d + 1) t (.agg #[])).run P w = .ok () w := by
  simp [Instr.checkKey, run_underlying ht]
theorem check_struct2 {t e : TypeId} {f0 f1 : Field} {ms : Array (String × TypeId)} (ht : P.underlying t = some (.struct #[f0, f1])) (he : P.underlying e = some (.interface ms))
    (n0 : (f0.name = "_") = False) (n1 : (f1.name = "_") = False) (t0 : f0.type = e) (t1 : f1.type = e) (o0 : f0.offset = 0) (o1 : f1.offset = 1) (em : Bool) (d : Nat) (a b : Value) (w : World) :
    (Instr.checkKey em (d + 1) t (.agg #[a, b])).run P w = match (Instr.checkKey em d e a).run P w with
      | .ok _ w' => (Instr.checkKey em d e b).run P w'
      | .halt h w' => .halt h w' := by
  simp [Instr.checkKey, run_underlying ht, run_underlying he, n0, n1, t0, t1, o0, o1, part, isAgg, Sem.run_bind]
  cases (Instr.checkKey em d e a).run P w with
  | halt h w' => simp
  | ok r w' => simp
end Go.Proofs.Ythkemcekcfccpaa.GBrandCompares
end
section
namespace Go.Proofs.Ythkemcekcfccpaa.PBrandCompares
open Go.RowKit Go.Proofs.YthkemcekcfccpaaW.PrintWords Go.Proofs.YthkemcekcfccpaaW.PrintLast Go.Proofs.YthkemcekcfccpaaW.PrintMore
open Go.Proofs.Ythkemcekcfccpaa.GBrandCompares
set_option linter.unusedVariables false
set_option linter.unusedSimpArgs false
inductive Mk where
  | nothing
  | number (n : Int)
  | text (s : ByteArray)
  | refer (r : Int)
  | pair (a b : Mk)
  | row (v : Value)
def Mk.val : Mk → Value
  | .nothing => .iface 105 (.agg #[])
  | .number n => .iface 96 (.int .i64 n)
  | .text s => .iface 97 (.string s)
  | .refer r => .iface 98 (.int .i64 r)
  | .pair a b => .iface 100 (.agg #[a.val, b.val])
  | .row v => .iface 103 (.agg #[v])
def Mk.deep : Mk → Nat
  | .pair a b => max a.deep b.deep + 1
  | _ => 0
def Mk.cmp : Mk → Mk → Nat
  | .nothing, .nothing => 1
  | .number a, .number b => if a = b then 1 else 0
  | .text a, .text b => if a = b then 1 else 0
  | .refer a, .refer b => if a = b then 1 else 0
  | .pair a b, .pair c d => if a.cmp c = 1 then b.cmp d else a.cmp c
  | .row _, .row _ => 2
  | _, _ => 0
def Mk.keys : Mk → Bool
  | .pair a b => a.keys && b.keys
  | .row _ => false
  | _ => true
noncomputable def eqRes (c : Nat) (w : World) : Result Bool :=
  match c with
  | 0 => .ok false w
  | 1 => .ok true w
  | _ => .halt (.panic (.iface 10 (strVal "comparing uncomparable type brand.row"))) w
theorem cmp_lt (a : Mk) : ∀ b : Mk, a.cmp b ≤ 2 := by
  induction a with
  | pair a c iha ihc =>
    intro b
    cases b <;> simp [Mk.cmp]
    split
    · exact ihc _
    · exact iha _
  | _ =>
    intro b
    cases b <;> simp [Mk.cmp] <;> split <;> omega
def MarkOf : S27 → Mk → Prop
  | x, .nothing => x.f0 ≠ 1 ∧ x.f0 ≠ 2 ∧ x.f0 ≠ 4 ∧ x.f0 ≠ 3
  | x, .number n => x.f0 = 1 ∧ n = x.f1
  | x, .text s => x.f0 = 2 ∧ s = x.f2
  | x, .refer r => x.f0 = 4 ∧ r = x.f4
  | x, .pair a b => x.f0 = 3 ∧ ∃ y z, x.f3 = [y, z] ∧ MarkOf y a ∧ MarkOf z b
  | x, .row _ => x.f0 = 3 ∧ x.f3.length ≠ 2
theorem Mk.val_iface (m : Mk) : ∃ t v, m.val = .iface t v := by cases m <;> exact ⟨_, _, rfl⟩
theorem inf {t : TypeId} {c : Bool} {s : String} (h : (Try.prog.info? t).map (fun i => (i.comparable, i.str)) = some (c, s)) : ∃ i, Try.prog.info? t = some i ∧ i.comparable = c ∧ i.str = s := by
  generalize Try.prog.info? t = o at h
  cases o with
  | none => cases h
  | some i => exact ⟨i, rfl, (Prod.mk.inj (Option.some.inj h)).1, (Prod.mk.inj (Option.some.inj h)).2⟩
theorem info103 : (Try.prog.info? 103).map (fun i => (i.comparable, i.str)) = some (false, "brand.row") := by kernel_rfl
theorem info96 : (Try.prog.info? 96).map (fun i => (i.comparable, i.str)) = some (true, "brand.number") := by kernel_rfl
theorem info97 : (Try.prog.info? 97).map (fun i => (i.comparable, i.str)) = some (true, "brand.text") := by kernel_rfl
theorem info98 : (Try.prog.info? 98).map (fun i => (i.comparable, i.str)) = some (true, "brand.reference") := by kernel_rfl
theorem info100 : (Try.prog.info? 100).map (fun i => (i.comparable, i.str)) = some (true, "brand.pair") := by kernel_rfl
theorem info105 : (Try.prog.info? 105).map (fun i => (i.comparable, i.str)) = some (true, "brand.nothing") := by kernel_rfl
theorem rt_err : Try.prog.rt.errorString = 10 := by kernel_rfl
theorem rt_hash : Try.prog.rt.unhashableTypeError = 19 := by kernel_rfl
theorem nopack : Try.prog.holdsPacked Try.prog.depth 103 = false := by kernel_rfl
theorem nostood100 : Try.prog.stoodInHeld 100 = false := by kernel_rfl
theorem nostood105 : Try.prog.stoodInHeld 105 = false := by kernel_rfl
theorem eq_marks (a : Mk) : ∀ (b : Mk) (d : Nat) (w : World), 2 * a.deep + 2 ≤ d → (Op.equalIn d 45 a.val b.val).run Try.prog w = eqRes (a.cmp b) w := by
  induction a with
  | nothing =>
    intro b d w hd
    obtain ⟨d, rfl⟩ : ∃ m, d = m + 2 := ⟨d - 2, by omega⟩
    obtain ⟨i, hi, hc, _⟩ := inf info105
    cases b with
    | nothing =>
      rw [show Mk.nothing.val = .iface 105 (.agg #[]) from rfl, eq_same Try.underlying45 hi hc, eq_struct0 Try.underlying105 nostood105]
      rfl
    | _ => exact eq_unlike Try.underlying45 (by decide) _ _ _ _
  | number n =>
    intro b d w hd
    obtain ⟨d, rfl⟩ : ∃ m, d = m + 2 := ⟨d - 2, by omega⟩
    obtain ⟨i, hi, hc, _⟩ := inf info96
    cases b with
    | number m =>
      rw [show (Mk.number n).val = .iface 96 (.int .i64 n) from rfl, show (Mk.number m).val = .iface 96 (.int .i64 m) from rfl, eq_same Try.underlying45 hi hc, eq_int Try.underlying96]
      simp only [Mk.cmp]
      by_cases h : n = m
      · subst h; simp [eqRes]
      · simp [h, eqRes]
    | _ => exact eq_unlike Try.underlying45 (by decide) _ _ _ _
  | text n =>
    intro b d w hd
    obtain ⟨d, rfl⟩ : ∃ m, d = m + 2 := ⟨d - 2, by omega⟩
    obtain ⟨i, hi, hc, _⟩ := inf info97
    cases b with
    | text m =>
      rw [show (Mk.text n).val = .iface 97 (.string n) from rfl, show (Mk.text m).val = .iface 97 (.string m) from rfl, eq_same Try.underlying45 hi hc, eq_string Try.underlying97]
      simp only [Mk.cmp]
      by_cases h : n = m
      · rw [if_pos h, (Go.MapKept.bytes_beq n m).mpr h]; rfl
      · rw [if_neg h, show (n == m) = false from by rw [Bool.eq_false_iff]; exact fun e => h ((Go.MapKept.bytes_beq n m).mp e)]; rfl
    | _ => exact eq_unlike Try.underlying45 (by decide) _ _ _ _
  | refer n =>
    intro b d w hd
    obtain ⟨d, rfl⟩ : ∃ m, d = m + 2 := ⟨d - 2, by omega⟩
    obtain ⟨i, hi, hc, _⟩ := inf info98
    cases b with
    | refer m =>
      rw [show (Mk.refer n).val = .iface 98 (.int .i64 n) from rfl, show (Mk.refer m).val = .iface 98 (.int .i64 m) from rfl, eq_same Try.underlying45 hi hc, eq_int Try.underlying98]
      simp only [Mk.cmp]
      by_cases h : n = m
      · subst h; simp [eqRes]
      · simp [h, eqRes]
    | _ => exact eq_unlike Try.underlying45 (by decide) _ _ _ _
  | row v =>
    intro b d w hd
    obtain ⟨d, rfl⟩ : ∃ m, d = m + 2 := ⟨d - 2, by omega⟩
    obtain ⟨i, hi, hc, hs⟩ := inf info103
    cases b with
    | row m =>
      rw [show (Mk.row v).val = .iface 103 (.agg #[v]) from rfl, show (Mk.row m).val = .iface 103 (.agg #[m]) from rfl, eq_panics Try.underlying45 hi hc nopack (by rw [hs]; decide) rt_err, hs]
      rfl
    | _ => exact eq_unlike Try.underlying45 (by decide) _ _ _ _
  | pair x y ihx ihy =>
    intro b d w hd
    obtain ⟨d, rfl⟩ : ∃ m, d = m + 2 := ⟨d - 2, by omega⟩
    obtain ⟨i, hi, hc, hs⟩ := inf info100
    cases b with
    | pair u v =>
      have h1 : 2 * x.deep + 2 ≤ d := by simp only [Mk.deep] at hd; omega
      have h2 : 2 * y.deep + 2 ≤ d := by simp only [Mk.deep] at hd; omega
      rw [show (Mk.pair x y).val = .iface 100 (.agg #[x.val, y.val]) from rfl, show (Mk.pair u v).val = .iface 100 (.agg #[u.val, v.val]) from rfl, eq_same Try.underlying45 hi hc,
        eq_struct2 Try.underlying100 nostood100 Try.underlying45 (by simp) (by simp) rfl rfl rfl rfl, ihx u d w h1]
      simp only [Mk.cmp]
      have hl := cmp_lt x u
      have : x.cmp u = 0 ∨ x.cmp u = 1 ∨ x.cmp u = 2 := by omega
      rcases this with h | h | h
      · rw [h]; rfl
      · rw [h]; simp only [eqRes, if_true]; exact ihy v d w h2
      · rw [h]; rfl
    | _ => exact eq_unlike Try.underlying45 (by decide) _ _ _ _
noncomputable def checkRes (e k : Bool) (w : World) : Result Unit :=
  if k then .ok () w else if e then .halt (.panic (.iface 19 (.agg #[typeHandle Try.prog 103]))) w else .halt (.panic (.iface 10 (strVal "hash of unhashable type brand.row"))) w
theorem check_marks (a : Mk) : ∀ (e : Bool) (d : Nat) (w : World), 2 * a.deep + 2 ≤ d → (Instr.checkKey e d 45 a.val).run Try.prog w = checkRes e a.keys w := by
  induction a with
  | nothing =>
    intro e d w hd
    obtain ⟨d, rfl⟩ : ∃ m, d = m + 2 := ⟨d - 2, by omega⟩
    obtain ⟨i, hi, hc, _⟩ := inf info105
    rw [show Mk.nothing.val = .iface 105 (.agg #[]) from rfl, check_same Try.underlying45 hi hc, check_struct0 Try.underlying105]
    rfl
  | number n =>
    intro e d w hd
    obtain ⟨d, rfl⟩ : ∃ m, d = m + 2 := ⟨d - 2, by omega⟩
    obtain ⟨i, hi, hc, _⟩ := inf info96
    rw [show (Mk.number n).val = .iface 96 (.int .i64 n) from rfl, check_same Try.underlying45 hi hc, check_int Try.underlying96]
    rfl
  | text n =>
    intro e d w hd
    obtain ⟨d, rfl⟩ : ∃ m, d = m + 2 := ⟨d - 2, by omega⟩
    obtain ⟨i, hi, hc, _⟩ := inf info97
    rw [show (Mk.text n).val = .iface 97 (.string n) from rfl, check_same Try.underlying45 hi hc, check_string Try.underlying97]
    rfl
  | refer n =>
    intro e d w hd
    obtain ⟨d, rfl⟩ : ∃ m, d = m + 2 := ⟨d - 2, by omega⟩
    obtain ⟨i, hi, hc, _⟩ := inf info98
    rw [show (Mk.refer n).val = .iface 98 (.int .i64 n) from rfl, check_same Try.underlying45 hi hc, check_int Try.underlying98]
    rfl
  | row v =>
    intro e d w hd
    obtain ⟨d, rfl⟩ : ∃ m, d = m + 2 := ⟨d - 2, by omega⟩
    obtain ⟨i, hi, hc, hs⟩ := inf info103
    rw [show (Mk.row v).val = .iface 103 (.agg #[v]) from rfl]
    cases e
    · rw [check_full Try.underlying45 hi hc (by rw [hs]; decide) rt_err, hs]; rfl
    · rw [check_empty Try.underlying45 hi hc rt_hash]; rfl
  | pair x y ihx ihy =>
    intro e d w hd
    obtain ⟨d, rfl⟩ : ∃ m, d = m + 2 := ⟨d - 2, by omega⟩
    obtain ⟨i, hi, hc, hs⟩ := inf info100
    have h1 : 2 * x.deep + 2 ≤ d := by simp only [Mk.deep] at hd; omega
    have h2 : 2 * y.deep + 2 ≤ d := by simp only [Mk.deep] at hd; omega
    rw [show (Mk.pair x y).val = .iface 100 (.agg #[x.val, y.val]) from rfl, check_same Try.underlying45 hi hc,
      check_struct2 Try.underlying100 Try.underlying45 (by simp) (by simp) rfl rfl rfl rfl, ihx e d w h1]
    simp only [Mk.keys]
    cases h : x.keys
    · cases e <;> rfl
    · simp only [checkRes, if_true, Bool.true_and]; exact ihy e d w h2
end Go.Proofs.Ythkemcekcfccpaa.PBrandCompares
end
section
namespace Go.Proofs.Ythkemcekcfccpaa.GBrandCompares
open Go.RowKit
set_option linter.unusedVariables false
section
variable {P : Program} {Q : Exit → Act → World → Prop}
theorem wp_value {o : Oper} {a : Act} {w w' : World} {K : Act → World → Prop} (v : Value) (hrun : (execOp a.eval o).run P w = .ok (.value v) w') (h : K (a.put o.dst v) w') : Oper.wp P o a w K Q := by
  unfold Oper.wp
  rw [hrun]
  exact h
theorem wp_panic {o : Oper} {a : Act} {w w' : World} {K : Act → World → Prop} (v : Value) (hrun : (execOp a.eval o).run P w = .halt (.panic v) w') (h : Q (.panic [{ v := v, recovered := false }]) a w') : Oper.wp P o a w K Q := by
  unfold Oper.wp
  rw [hrun]
  exact h
theorem valueL {ops : Array Oper} {rest : List Oper} {o : Oper} {a : Act} {w w' : World} (N : Option Tmp) (hd : o.dst = N) (hg : o.guard = none) (v : Value) (hrun : (execOp a.eval o).run P w = .ok (.value v) w') (h : wpList P ops Q rest (a.put N v) w') : wpList P ops Q (o :: rest) a w := by
  refine wpList_plain hg fun K hK => ?_
  subst hd
  exact wp_value v hrun (hK _ _ h)
theorem panicL {ops : Array Oper} {rest : List Oper} {o : Oper} {a : Act} {w w' : World} (N : Option Tmp) (hd : o.dst = N) (hg : o.guard = none) (v : Value) (hrun : (execOp a.eval o).run P w = .halt (.panic v) w') (h : Q (.panic [{ v := v, recovered := false }]) a w') : wpList P ops Q (o :: rest) a w := by
  refine wpList_plain hg fun K hK => ?_
  exact wp_panic v hrun h
theorem run_eql {ev : Operand → Value} {o : Oper} {t t' : TypeId} {x y : Operand} (ho : o.op = .binOp .eql t x y t') {t1 t2 : TypeId} {u1 u2 : Value} (hx : ev x = .iface t1 u1) (hy : ev y = .iface t2 u2) (w : World) :
    (execOp ev o).run P w = ((Op.equalIn Op.maxDepth t (.iface t1 u1) (.iface t2 u2)).run P w).andThen fun b w => .ok (.value (.bool b)) w := by
  unfold execOp
  simp only [ho, hx, hy, eqGuard, binOp, Op.equal]
  simp
theorem results_row_tmp {fn : Func} {p u : Tmp} {ty : TypeId} (h : fn.results = #[.cell p ty, .tmp u]) (tmps : Array Value) (w : World) (g : Nat) (t : TypeId) (cs : Array Value) (fr : Nat × Nat) (d : TypeDesc)
    (hp : tmps.getD p undef = .pointer (some ⟨g, 0, none⟩)) (hg : w.heap[g]? = some (.cells cs t fr))
    (hu : P.underlying ty = some d) (hd : (match d with | .struct _ | .array _ _ => true | _ => false) = true) (hi : (P.info? ty).map (·.size) = some cs.size) :
    (results fn tmps).run P w = .ok (.tuple #[.agg cs, tmps.getD u undef]) w := by
  have hp' : tmps[p]?.getD undef = .pointer (some ⟨g, 0, none⟩) := by simpa using hp
  simp [results, h, hp', asAddr, run_loadVar_row w g t ty cs fr d hg hu hd hi]
theorem results_row_tmp2 {fn : Func} {p u v : Tmp} {ty : TypeId} (h : fn.results = #[.cell p ty, .tmp u, .tmp v]) (tmps : Array Value) (w : World) (g : Nat) (t : TypeId) (cs : Array Value) (fr : Nat × Nat) (d : TypeDesc)
    (hp : tmps.getD p undef = .pointer (some ⟨g, 0, none⟩)) (hg : w.heap[g]? = some (.cells cs t fr))
    (hu : P.underlying ty = some d) (hd : (match d with | .struct _ | .array _ _ => true | _ => false) = true) (hi : (P.info? ty).map (·.size) = some cs.size) :
    (results fn tmps).run P w = .ok (.tuple #[.agg cs, tmps.getD u undef, tmps.getD v undef]) w := by
  have hp' : tmps[p]?.getD undef = .pointer (some ⟨g, 0, none⟩) := by simpa using hp
  simp [results, h, hp', asAddr, run_loadVar_row w g t ty cs fr d hg hu hd hi]
end
end Go.Proofs.Ythkemcekcfccpaa.GBrandCompares
end
section
namespace Go.Proofs.Ythkemcekcfccpaa.PBrandCompares
open Go.RowKit Go.Proofs.YthkemcekcfccpaaW.PrintWords Go.Proofs.YthkemcekcfccpaaW.PrintLast Go.Proofs.YthkemcekcfccpaaW.PrintMore
open Go.Proofs.Ythkemcekcfccpaa.GBrandCompares
set_option linter.unusedVariables false
set_option linter.unusedSimpArgs false
theorem cmp_keys (a : Mk) : ∀ b : Mk, a.keys = true → b.keys = true → (a.cmp b = 1 ∧ a = b) ∨ (a.cmp b = 0 ∧ a ≠ b) := by
  induction a with
  | pair a c iha ihc =>
    intro b ha hb
    cases b with
    | pair x y =>
      simp only [Mk.keys, Bool.and_eq_true] at ha hb
      simp only [Mk.cmp]
      rcases iha x ha.1 hb.1 with ⟨h, rfl⟩ | ⟨h, hn⟩
      · rw [if_pos h]
        rcases ihc y ha.2 hb.2 with ⟨k, rfl⟩ | ⟨k, kn⟩
        · exact .inl ⟨k, rfl⟩
        · exact .inr ⟨k, fun e => kn (by injection e)⟩
      · rw [if_neg (by omega)]
        exact .inr ⟨h, fun e => hn (by injection e)⟩
    | _ => exact .inr ⟨rfl, fun e => by cases e⟩
  | row v => intro b ha; simp [Mk.keys] at ha
  | nothing => intro b _ hb; cases b <;> simp [Mk.cmp, Mk.keys] at *
  | number n =>
    intro b _ hb
    cases b with
    | number m =>
      simp only [Mk.cmp]
      by_cases h : n = m
      · subst h; simp
      · simp [h]
    | _ => exact .inr ⟨rfl, fun e => by cases e⟩
  | text n =>
    intro b _ hb
    cases b with
    | text m =>
      simp only [Mk.cmp]
      by_cases h : n = m
      · subst h; simp
      · simp [h]
    | _ => exact .inr ⟨rfl, fun e => by cases e⟩
  | refer n =>
    intro b _ hb
    cases b with
    | refer m =>
      simp only [Mk.cmp]
      by_cases h : n = m
      · subst h; simp
      · simp [h]
    | _ => exact .inr ⟨rfl, fun e => by cases e⟩
theorem same_bits (a : Mk) : ∀ n, a.keys = true → 2 * a.deep + 2 ≤ n → Instr.sameBits n a.val a.val = true := by
  induction a with
  | pair a b iha ihb =>
    intro n hk hn
    obtain ⟨n, rfl⟩ : ∃ m, n = m + 2 := ⟨n - 2, by omega⟩
    simp only [Mk.keys, Bool.and_eq_true] at hk
    simp only [Mk.deep] at hn
    have h1 := iha n hk.1 (by omega)
    have h2 := ihb n hk.2 (by omega)
    rw [show (Mk.pair a b).val = .iface 100 (.agg #[a.val, b.val]) from rfl]
    simp [Instr.sameBits, h1, h2]
  | row v => intro n hk; simp [Mk.keys] at hk
  | nothing =>
    intro n hk hn
    obtain ⟨n, rfl⟩ : ∃ m, n = m + 2 := ⟨n - 2, by omega⟩
    rw [show Mk.nothing.val = .iface 105 (.agg #[]) from rfl]
    simp [Instr.sameBits]
  | number k =>
    intro n hk hn
    obtain ⟨n, rfl⟩ : ∃ m, n = m + 2 := ⟨n - 2, by omega⟩
    rw [show (Mk.number k).val = .iface 96 (.int .i64 k) from rfl]
    simp [Instr.sameBits]
  | text k =>
    intro n hk hn
    obtain ⟨n, rfl⟩ : ∃ m, n = m + 2 := ⟨n - 2, by omega⟩
    rw [show (Mk.text k).val = .iface 97 (.string k) from rfl]
    simp [Instr.sameBits, (Go.MapKept.bytes_beq k k).mpr rfl]
  | refer k =>
    intro n hk hn
    obtain ⟨n, rfl⟩ : ∃ m, n = m + 2 := ⟨n - 2, by omega⟩
    rw [show (Mk.refer k).val = .iface 98 (.int .i64 k) from rfl]
    simp [Instr.sameBits]
def Key (a : Mk) : Prop := a.keys = true ∧ a.deep ≤ 16
theorem deep_enough' {n : Nat} (h : n ≤ 16) : 2 * n + 2 ≤ Op.maxDepth := by
  show _ ≤ 10000
  omega
def posMk (a : Mk) (ms : List Mk) : Option Nat := ms.findIdx? (fun m => a.cmp m == 1)
theorem find_asking (a : Mk) (ha : Key a) : ∀ (ms : List Mk) (l : List MapEntry) (i : Nat) (w : World), (∀ m ∈ ms, Key m) → l.map (·.key) = ms.map Mk.val →
    (Instr.findAsking 45 a.val l i).run Try.prog w = .ok ((posMk a ms).bind fun j => (l[j]?).map fun e => (i + j, e.val)) w := by
  intro ms
  induction ms with
  | nil =>
    intro l i w _ hl
    cases l with
    | nil => rfl
    | cons e l => simp at hl
  | cons m ms ih =>
    intro l i w hm hl
    cases l with
    | nil => simp at hl
    | cons e l =>
      simp only [List.map_cons, List.cons.injEq] at hl
      have hk := hm m (.head _)
      unfold Instr.findAsking
      rw [Sem.run_bind, Op.equal, hl.1, eq_marks a m _ w (deep_enough' ha.2)]
      unfold posMk
      rw [List.findIdx?_cons]
      rcases cmp_keys a m ha.1 hk.1 with ⟨h, _⟩ | ⟨h, _⟩
      · rw [h]
        simp [eqRes]
      · rw [h]
        simp only [eqRes, Result.andThen_ok, Bool.false_eq_true, if_false]
        rw [ih l (i + 1) w (fun m h => hm m (.tail _ h)) hl.2]
        unfold posMk
        simp only [show ((0 : Nat) == 1) = false from rfl, Bool.false_eq_true, if_false]
        cases ms.findIdx? (fun m => a.cmp m == 1) with
        | none => rfl
        | some j => simp [Nat.add_assoc, Nat.add_comm 1 j]
theorem find_now {ms : Array (String × TypeId)} {k : Value} {l : List MapEntry} {r : Option (Nat × Value)} (h : Instr.findNow (.interface ms) k l 0 = some r) : l = [] ∧ r = none := by
  cases l with
  | nil => simp [Instr.findNow] at h; exact ⟨rfl, h.symm⟩
  | cons e l => simp [Instr.findNow, Instr.sameNow] at h
theorem find_key (a : Mk) (ha : Key a) (ms : List Mk) (l : List MapEntry) (w : World) (hm : ∀ m ∈ ms, Key m) (hl : l.map (·.key) = ms.map Mk.val) :
    (Instr.findKey 45 a.val l).run Try.prog w = .ok ((posMk a ms).bind fun j => (l[j]?).map fun e => (j, e.val)) w := by
  unfold Instr.findKey
  rw [Sem.run_bind, run_underlying Try.underlying45, Result.andThen_ok]
  have hf := find_asking a ha ms l 0 w hm hl
  simp only [Nat.zero_add] at hf
  split
  · rename_i r h
    obtain ⟨rfl, rfl⟩ := find_now h
    cases ms with
    | nil => rfl
    | cons m ms => simp at hl
  · exact hf
theorem check_ok (a : Mk) (ha : Key a) (e : Bool) (w : World) : (Instr.checkKey e 10000 45 a.val).run Try.prog w = .ok () w := by
  rw [check_marks a e 10000 w (by have := ha.2; omega)]
  simp [checkRes, ha.1]
theorem posMk_lt {a : Mk} {ms : List Mk} {j : Nat} (h : posMk a ms = some j) : j < ms.length := by
  unfold posMk at h
  exact (List.findIdx?_eq_some_iff_getElem.1 h).1
theorem posMk_key {a : Mk} {ms : List Mk} {j : Nat} (ha : a.keys = true) (hm : ∀ m ∈ ms, m.keys = true) (h : posMk a ms = some j) : ms[j]? = some a := by
  unfold posMk at h
  obtain ⟨hl, hj, _⟩ := List.findIdx?_eq_some_iff_getElem.1 h
  rw [List.getElem?_eq_getElem hl]
  rcases cmp_keys a ms[j] ha (hm _ (List.getElem_mem hl)) with ⟨_, e⟩ | ⟨e, _⟩
  · rw [← e]
  · rw [e] at hj; simp at hj
section
variable {w : World} {r : Nat} {es : Array MapEntry} {clock : Nat} {ms : List Mk} {a : Mk}
def under (es : Array MapEntry) (z : Value) : Option Nat → Value × Bool
  | none => (z, false)
  | some j => match es[j]? with
    | some e => (e.val, true)
    | none => (z, false)
theorem run_lookup (t e : TypeId) (ht : Try.prog.underlying t = some (.map 45 e)) {i : TypeInfo} (hi : Try.prog.info? e = some i) {z : Value} (hz : i.zero = some z) (hb : w.heap[r]? = some (.map es clock)) (ha : Key a) (hm : ∀ m ∈ ms, Key m) (hl : es.toList.map (·.key) = ms.map Mk.val) (ok : Bool) :
    (Instr.lookup t (.map (some r)) a.val ok).run Try.prog w = .ok (if ok then .tuple #[(under es z (posMk a ms)).1, .bool (under es z (posMk a ms)).2] else (under es z (posMk a ms)).1) w := by
  unfold Instr.lookup
  rw [Sem.run_bind, run_underlying ht, Result.andThen_ok]
  simp only [Sem.run_bind, Go.MapKept.run_getObj_map hb, Result.andThen_ok, Sem.run_pure, check_ok a ha, find_key a ha ms es.toList _ hm hl]
  cases hp : posMk a ms with
  | none =>
    simp [under, zeroValue, typeInfo, hi, hz, Result.andThen]
  | some j =>
    have hj := posMk_lt hp
    have hle : ms.length = es.toList.length := by have := congrArg List.length hl; simpa using this.symm
    have hlt : j < es.size := by rw [hle] at hj; simpa using hj
    simp [under, hlt]
theorem run_put (t e : TypeId) (ht : Try.prog.underlying t = some (.map 45 e)) (hb : w.heap[r]? = some (.map es clock)) (ha : Key a) (hm : ∀ m ∈ ms, Key m) (hl : es.toList.map (·.key) = ms.map Mk.val) (v : Value) :
    (Instr.mapUpdate t (.map (some r)) a.val v).run Try.prog w = .ok () { w with heap := w.heap.setIfInBounds r (match posMk a ms with
      | none => .map (es.push { key := a.val, val := v, born := clock }) (clock + 1)
      | some j => .map (es.modify j fun e => { e with key := a.val, val := v }) clock) } := by
  unfold Instr.mapUpdate
  rw [Sem.run_bind, run_underlying ht, Result.andThen_ok]
  simp only [Sem.run_bind, Go.MapKept.run_getObj_map hb, Result.andThen_ok, Sem.run_pure, check_ok a ha, find_key a ha ms es.toList _ hm hl]
  cases hp : posMk a ms with
  | none =>
    simp only [Option.bind_none]
    exact Go.MapKept.run_setObj_map _ hb
  | some j =>
    have hj := posMk_lt hp
    have hle : ms.length = es.toList.length := by have := congrArg List.length hl; simpa using this.symm
    have hlt : j < es.size := by rw [hle] at hj; simpa using hj
    have hk := posMk_key ha.1 (fun m h => (hm m h).1) hp
    have hkey : es[j].key = a.val := by
      have := congrArg (fun l => l[j]?) hl
      simp only [List.getElem?_map, hk, Array.getElem?_toList, Array.getElem?_eq_getElem hlt, Option.map_some] at this
      exact Option.some.inj this
    simp only [Option.bind_some, Array.getElem?_toList, Array.getElem?_eq_getElem hlt, Option.map_some, Sem.run_bind, Option.getD_some]
    unfold Instr.keyThatStays
    rw [hkey, if_pos (same_bits a 10000 ha.1 (by have := ha.2; omega))]
    simp only [Sem.run_pure, Result.andThen_ok]
    exact Go.MapKept.run_setObj_map _ hb
end
end Go.Proofs.Ythkemcekcfccpaa.PBrandCompares
end
section
namespace Go.Proofs.Ythkemcekcfccpaa.GBrandCompares
open Go.RowKit Go.Proofs.YthkemcekcfccpaaW.PrintLast
set_option linter.unusedVariables false
section
variable {P : Program} {ops : Array Oper} {Q : Exit → Act → World → Prop} {md : Region.Mode} {S : World → Prop}
def Any : World → Prop := fun _ => True
theorem stepV {ds : List Nat} {i : Nat} {N : Option Tmp} {oi : Oper} {fuel : Nat} {l : Array Bool} {a : Act} {w w1 : World} (l' : Array Bool) (hi : ops[i]? = some oi) (hc : readyB md ops l l' i = true) (hd : i ∈ ds) (hN : oi.dst = N)
    (hw : Region.wanted oi (yielded ops a.tmps) = true) (v : Value) (hrun : (execOp a.eval oi).run P w = .ok (.value v) w1) {a' : Act} (ha : a.put N v = a') (h : wpAnyLast P md ops Q S ds fuel l' a' w1) : wpAnyLast P md ops Q S ds (fuel + 1) l a w := by
  refine last_ l' hi hN hc hd fun K hK => ?_
  refine value_ hw hN hrun ?_
  subst ha
  exact hK _ _ h
theorem stepPP {ds : List Nat} {i j : Nat} {oi oj : Oper} {fuel : Nat} {l : Array Bool} {a : Act} {w w1 w2 : World} (hi : ops[i]? = some oi) (hj : ops[j]? = some oj) (hc : (Region.ready md ops l == [i, j]) = true) (hdi : i ∈ ds) (hdj : j ∈ ds)
    (hwi : Region.wanted oi (yielded ops a.tmps) = true) (hwj : Region.wanted oj (yielded ops a.tmps) = true) (u v : Value) (hri : (execOp a.eval oi).run P w = .halt (.panic u) w1) (hrj : (execOp a.eval oj).run P w = .halt (.panic v) w2)
    (hu : Q (.panic [{ v := u, recovered := false }]) a w1) (hv : Q (.panic [{ v := v, recovered := false }]) a w2) : wpAnyLast P md ops Q S ds (fuel + 1) l a w := by
  simp only [beq_iff_eq] at hc
  refine wpAnyLast_ready hc (by simp) (AllReadyL.cons_last hi hdi (fun K hK => ?_) (AllReadyL.cons_last hj hdj (fun K hK => ?_) AllReadyL.nil))
  · rw [if_pos hwi]
    exact wp_panic u hri hu
  · rw [if_pos hwj]
    exact wp_panic v hrj hv
theorem stepC {ds : List Nat} {i : Nat} {N : Option Tmp} {oi : Oper} {fuel : Nat} {l : Array Bool} {a : Act} {w : World} (l' : Array Bool) (hi : ops[i]? = some oi) (hc : readyB md ops l l' i = true) (hd : i ∈ ds) (hN : oi.dst = N)
    (hw : Region.wanted oi (yielded ops a.tmps) = true) (f : FuncId) (args : Array Value) (hrun : (execOp a.eval oi).run P w = .ok (.enter f args) w)
    (h : Calls P f args w fun e w' => ∃ v, e = .returned v ∧ wpAnyLast P md ops Q S ds fuel l' (a.put N v) w') : wpAnyLast P md ops Q S ds (fuel + 1) l a w := by
  refine last_ l' hi hN hc hd fun K hK => ?_
  refine call_ f args hw hN hrun (h.mono ?_)
  rintro e w' ⟨v, rfl, hv⟩
  exact ⟨v, rfl, hK _ _ hv⟩
theorem branchVC {ds : List Nat} {i j : Nat} {Ni Nj : Option Tmp} {oi oj : Oper} {fuel : Nat} {l : Array Bool} {a : Act} {w w1 : World} (li lj : Array Bool) (hi : ops[i]? = some oi) (hj : ops[j]? = some oj)
    (hc : (Region.ready md ops l == [i, j] && l.setIfInBounds i true == li && l.setIfInBounds j true == lj) = true) (hdi : i ∈ ds) (hdj : j ∈ ds) (hNi : oi.dst = Ni) (hNj : oj.dst = Nj)
    (hwi : Region.wanted oi (yielded ops a.tmps) = true) (v : Value) (hri : (execOp a.eval oi).run P w = .ok (.value v) w1) (hwj : Region.wanted oj (yielded ops a.tmps) = true) (f : FuncId) (args : Array Value) (hrj : (execOp a.eval oj).run P w = .ok (.enter f args) w)
    {a' : Act} (ha : a.put Ni v = a') (h1 : wpAnyLast P md ops Q S ds fuel li a' w1) (h2 : Calls P f args w fun e w' => ∃ u, e = .returned u ∧ wpAnyLast P md ops Q S ds fuel lj (a.put Nj u) w') : wpAnyLast P md ops Q S ds (fuel + 1) l a w := by
  subst hNi
  subst hNj
  subst ha
  simp only [Bool.and_eq_true, beq_iff_eq] at hc
  obtain ⟨⟨h3, h4⟩, h5⟩ := hc
  subst h4
  subst h5
  refine wpAnyLast_ready h3 (by simp) (AllReadyL.cons_last hi hdi (fun K hK => ?_) (AllReadyL.cons_last hj hdj (fun K hK => ?_) AllReadyL.nil))
  · exact value_ hwi rfl hri (hK _ _ h1)
  · refine call_ f args hwj rfl hrj (h2.mono ?_)
    rintro e w' ⟨u, rfl, hu⟩
    exact ⟨u, rfl, hK _ _ hu⟩
theorem exec_call {a : Act} {o : Oper} {f : FuncId} {fn : Func} {asx : Array Operand} {ts : Array TypeId} {w : World} (hf : P.funcs[f]? = some fn) (hname : (fn.name == "runtime.NumGoroutine") = false) (hb : fn.body.isSome = true) (args : Array Value)
    (hop : o.op = .call { callee := .value (.func f), args := asx, argTypes := ts }) (hargs : asx.map a.eval = args) : (execOp a.eval o).run P w = .ok (.enter f args) w := by
  have he := enters_ hf hname hb args w
  unfold execOp
  simp [hop, resolve, Deferred.ofValue, invoke, Act.eval, hargs, he]
end
theorem exec_halt {P : Program} {ev : Operand → Value} {o : Oper} {s : Sem Value} {w w1 : World} {h : Halt} (ho : execOp ev o = (do let x ← s; pure (.value x))) (hr : s.run P w = .halt h w1) : (execOp ev o).run P w = .halt h w1 := by
  rw [ho, Sem.run_bind, hr]
  rfl
theorem exec_call' {P : Program} {ρ : Operand → Value} {o : Oper} {f : FuncId} {fn : Func} {asx : Array Operand} {ts : Array TypeId} {w : World} (hf : P.funcs[f]? = some fn) (hname : (fn.name == "runtime.NumGoroutine") = false) (hb : fn.body.isSome = true) (args : Array Value)
    (hop : o.op = .call { callee := .value (.func f), args := asx, argTypes := ts }) (hargs : asx.map ρ = args) (hρ : ρ (.func f) = .func (.func f) #[] #[]) : (execOp ρ o).run P w = .ok (.enter f args) w := by
  have he := enters_ hf hname hb args w
  unfold execOp
  simp [hop, resolve, Deferred.ofValue, invoke, hρ, hargs, he]
end Go.Proofs.Ythkemcekcfccpaa.GBrandCompares
end
section
namespace Go.Proofs.Ythkemcekcfccpaa.PBrandCompares
open Go.RowKit Go.Proofs.YthkemcekcfccpaaW.PrintWords Go.Proofs.YthkemcekcfccpaaW.PrintLast Go.Proofs.YthkemcekcfccpaaW.PrintMore
open Go.Proofs.Ythkemcekcfccpaa.GBrandCompares
set_option linter.unusedVariables false
set_option linter.unusedSimpArgs false
set_option maxHeartbeats 400000 in
theorem take_3a (x : S27) (p d : Int) (A : Option Addr) (c : Nat) (w : World) (g : Nat) (hp : 0 < p) (hp2 : p ≤ 512) (hk : x.f0 = 3) (hd : d = 0)
    (hg : w.heap[g]? = some (.cells #[.int .i64 p, .int .i64 d] 108 (0, 0))) :
    Calls Try.prog 55 #[.pointer (some ⟨g, 0, none⟩), .agg #[.int .u8 x.f0, .int .i64 x.f1, .string x.f2, .slice A x.f3.length c, .int .i64 x.f4]] w (Left g (takeV x p d) w) := by
  have hc0 : w.cell? ⟨g, 0, none⟩ = some (.int .i64 p) := (blk_cell hg 0).trans rfl
  have hc1 : w.cell? ⟨g, 1, none⟩ = some (.int .i64 d) := (blk_cell hg 1).trans rfl
  have hf0 := blk_frozen hg 0
  have hlt := lt_of_blk hg
  have hp0 : (p == 0) = false := by simp; omega
  have hd0 : (d == 0) = true := by simp; omega
  have HG := Aside0.mk hg
  have HT := Aside0.mk ((takeV_3 (x := x) (p := p) (d := d) (by omega) hk).trans (if_pos (.inl hd)))
  clear hg hd
  rw [hk]
  clear hk
  go_enter Try.func55, Try.ntmps55
  go_wp2
  go_quiet (fail)
  go_wp2
  go_ret
  exact left_nowN HG.out _ _ _ HT.out
set_option maxHeartbeats 400000 in
theorem take_3b (x : S27) (p d : Int) (A : Option Addr) (c : Nat) (w : World) (g : Nat) (hp : 0 < p) (hp2 : p ≤ 512) (hk : x.f0 = 3) (hd : ¬ d = 0) (hl : p - 1 < (x.f3.length : Int))
    (hg : w.heap[g]? = some (.cells #[.int .i64 p, .int .i64 d] 108 (0, 0))) :
    Calls Try.prog 55 #[.pointer (some ⟨g, 0, none⟩), .agg #[.int .u8 x.f0, .int .i64 x.f1, .string x.f2, .slice A x.f3.length c, .int .i64 x.f4]] w (Left g (takeV x p d) w) := by
  have hc0 : w.cell? ⟨g, 0, none⟩ = some (.int .i64 p) := (blk_cell hg 0).trans rfl
  have hc1 : w.cell? ⟨g, 1, none⟩ = some (.int .i64 d) := (blk_cell hg 1).trans rfl
  have hf0 := blk_frozen hg 0
  have hlt := lt_of_blk hg
  have hp0 : (p == 0) = false := by simp; omega
  have hd0 : (d == 0) = false := by simp; omega
  have hl0 : decide (p - 1 < (x.f3.length : Int)) = true := by simp; omega
  have HG := Aside0.mk hg
  have HT := Aside0.mk ((takeV_3 (x := x) (p := p) (d := d) (by omega) hk).trans (if_pos (.inr hl)))
  clear hg hd hl
  rw [hk]
  clear hk
  go_enter Try.func55, Try.ntmps55
  go_wp2
  go_quiet (fail)
  go_wp2
  go_ret
  exact left_nowN HG.out _ _ _ HT.out
set_option maxHeartbeats 1000000 in
theorem take_3c (x : S27) (p d : Int) (A : Option Addr) (c : Nat) (w : World) (g : Nat) (ok : Nat → Prop) (hp : 0 < p) (hp2 : p ≤ 512) (hk : x.f0 = 3) (hd : 0 < d) (hd2 : d ≤ 16) (hl : ¬ p - 1 < (x.f3.length : Int))
    (hF : Kd.F k27 w ok A x.f3.length x.f3) (hok : ∀ k, ok k → k ≠ g)
    (hg : w.heap[g]? = some (.cells #[.int .i64 p, .int .i64 d] 108 (0, 0)))
    (ih : ∀ y ∈ x.f3, ∀ (p d : Int) (A : Option Addr) (c : Nat) (w : World), 0 ≤ p → p ≤ 512 → 0 ≤ d → d ≤ 16 → Kd.F k27 w ok A y.f3.length y.f3 → w.heap[g]? = some (.cells #[.int .i64 p, .int .i64 d] 108 (0, 0)) →
      Calls Try.prog 55 #[.pointer (some ⟨g, 0, none⟩), .agg #[.int .u8 y.f0, .int .i64 y.f1, .string y.f2, .slice A y.f3.length c, .int .i64 y.f4]] w (Left g (takeV y p d) w)) :
    Calls Try.prog 55 #[.pointer (some ⟨g, 0, none⟩), .agg #[.int .u8 x.f0, .int .i64 x.f1, .string x.f2, .slice A x.f3.length c, .int .i64 x.f4]] w (Left g (takeV x p d) w) := by
  have hc0 : w.cell? ⟨g, 0, none⟩ = some (.int .i64 p) := (blk_cell hg 0).trans rfl
  have hc1 : w.cell? ⟨g, 1, none⟩ = some (.int .i64 d) := (blk_cell hg 1).trans rfl
  have hf0 := blk_frozen hg 0
  have hf1 := blk_frozen hg 1
  have hlt := lt_of_blk hg
  have hp0 : (p == 0) = false := by simp; omega
  have hd0 : (d == 0) = false := by simp; omega
  have hl0 : decide (p - 1 < (x.f3.length : Int)) = false := by simp; omega
  have HG := Aside0.mk hg
  have HF := Aside0.mk hF
  have IH := Aside0.mk ih
  have HT := Aside0.mk ((takeV_3 (x := x) (p := p) (d := d) (by omega) hk).trans (if_neg (fun h => h.elim (by omega) hl)))
  have HO := Aside0.mk hok
  have hlen : x.f3.length ≤ 511 := by omega
  clear hg hl hF ih hok
  rw [hk]
  clear hk
  go_enter Try.func55, Try.ntmps55
  go_wp2
  go_quiet (fail)
  go_wp2
  go_loopg [68] x.f3.length (fun m v wr => ∃ (k : Nat) (q : Int), v = .int .i64 k ∧ Aside0 (k + m = x.f3.length) ∧ Aside0 (Ex (fun b => b = g) w wr) ∧ Aside0 (0 ≤ q ∧ q ≤ 512) ∧
    Aside0 (wr.heap[g]? = some (.cells #[.int .i64 q, .int .i64 (d - 1)] 108 (0, 0))) ∧ Aside0 (takeL x.f3 (p - 1) (d - 1) = takeL (x.f3.drop k) q (d - 1)) ∧
    Aside0 (wr.heap[w.heap.size + 1]? = some (.cells #[.int .u8 3, .int .i64 x.f1, .string x.f2, .slice A x.f3.length c, .int .i64 x.f4] 27 (0, 0))))
  case atStart =>
    refine ⟨0, p - 1, rfl, ⟨by omega⟩, ⟨?_⟩, ⟨by omega⟩, ⟨?_⟩, ⟨by simp⟩, ⟨?_⟩⟩
    · exact ((((((Ex.refl (fun b => b = g) w).set (p := ⟨g, 0, none⟩) (.inl rfl) _).alloc _).alloc _).drewN _).set (p := ⟨g, 1, none⟩) (.inl rfl) _)
    · exact blk_put (blk_drewN (blk_alloc (blk_alloc (blk_put HG.out 0 _ rfl) _) _) _) 1 _ rfl
    · exact blk_far (blk_drewN (by rw [show w.heap.size + 1 = ((w.setCell ⟨g, 0, none⟩ (.int .i64 (p - 1))).alloc (.cells #[.int .u8 3, .int .i64 x.f1, .string x.f2, .slice A x.f3.length c, .int .i64 x.f4] 27)).heap.size by simp]; exact blk_new _ _) _) (p := ⟨g, 1, none⟩) (show w.heap.size + 1 ≠ g by omega) _
  case round =>
    obtain ⟨k, q, rfl, HM, HX, HQ, HG2, HL, HB⟩ := hrel
    clear hc0 hc1 hf0 hf1 HG
    by_cases hk : k < x.f3.length
    · have hF2 := ex_F HX.out HF.out (fun k hk => HO.out k hk)
      obtain ⟨ad, A3, c3, rfl, e0, e1, e2, e3, e4, hc3, hF3⟩ := at_F27 hF2 k hk
      have HF3 := Aside0.mk hF3
      clear hF2 hF3
      have hq0 : wr.cell? ⟨g, 0, none⟩ = some (.int .i64 q) := (blk_cell HG2.out 0).trans rfl
      have hq1 : wr.cell? ⟨g, 1, none⟩ = some (.int .i64 (d - 1)) := (blk_cell HG2.out 1).trans rfl
      have hkk : (k : Int) < (x.f3.length : Int) := by omega
      have hkb : (k : Int) < 511 := by omega
      go_wp2_with fail
      have hbd := takeV_bounds (rd_T27 x.f3 k) (p := q) (d := d - 1) (by have := HQ.out; omega) (by omega)
      have hdr := HL.out
      rw [rd_drop hk, takeL] at hdr
      refine (IH.out (rd_T27 x.f3 k) (rd_mem hk) q (d - 1) A3 c3 _ HQ.out.1 HQ.out.2 (by omega) (by omega) (Kd.F_alloc HF3.out _) (blk_alloc HG2.out _)).mono ?_
      rintro e w1 ⟨rfl, hx1, hg1⟩
      generalize takeV (rd_T27 x.f3 k) q (d - 1) = t at hbd hdr hx1 hg1
      obtain ⟨b, q', d'⟩ := t
      dsimp only at hbd hdr hg1
      have HX1 := Aside0.mk ((HX.out.alloc _).trans hx1 (fun b hb => .inl hb))
      have HG1 := Aside0.mk hg1
      have HD := Aside0.mk hdr
      have HB1 := Aside0.mk (hx1.blk (blk_alloc HB.out _) (show ¬ (w.heap.size + 1 = g) by omega))
      clear hx1 hg1 hdr
      cases b
      · go_wp2
        go_ret
        refine left_mk (HT.out.trans ?_) HX1.out HG1.out
        rw [HD.out]
      · have hd' : d' = d - 1 := hbd.2.2.2.2 rfl
        subst hd'
        have HQ1 := Aside0.mk (And.intro hbd.1 (Int.le_trans hbd.2.1 HQ.out.2))
        clear hbd
        go_wp2
        go_roundg (gk - 1)
        case measure => have := HM.out; omega
        case rel => exact ⟨k + 1, q', by go_num, ⟨by have := HM.out; omega⟩, HX1, HQ1, HG1, HD, HB1⟩
    · have hq1 : wr.cell? ⟨g, 1, none⟩ = some (.int .i64 (d - 1)) := (blk_cell HG2.out 1).trans rfl
      have hf1 := blk_frozen HG2.out 1
      have b0 : wr.cell? ⟨w.heap.size + 1, 0, none⟩ = some (.int .u8 3) := (blk_cell HB.out 0).trans rfl
      have b1 : wr.cell? ⟨w.heap.size + 1, 1, none⟩ = some (.int .i64 x.f1) := (blk_cell HB.out 1).trans rfl
      have b2 : wr.cell? ⟨w.heap.size + 1, 2, none⟩ = some (.string x.f2) := (blk_cell HB.out 2).trans rfl
      have b3 : wr.cell? ⟨w.heap.size + 1, 3, none⟩ = some (.slice A x.f3.length c) := (blk_cell HB.out 3).trans rfl
      have b4 : wr.cell? ⟨w.heap.size + 1, 4, none⟩ = some (.int .i64 x.f4) := (blk_cell HB.out 4).trans rfl
      have bf := blk_frozen HB.out 3
      have hne : ¬ g = w.heap.size + 1 := by omega
      have hne2 : ¬ w.heap.size + 1 = g := by omega
      have hkk : ¬ (k : Int) < (x.f3.length : Int) := by omega
      have hnil : x.f3.drop k = [] := by simp; omega
      have hdr := HL.out
      rw [hnil, takeL] at hdr
      have HD := Aside0.mk hdr
      clear hdr hnil
      have HT2 := Aside0.mk (HT.out.trans (by rw [HD.out]) : takeV x p d = (decide (x.f1 = 0 ∧ x.f2.size = 0 ∧ x.f4 = 0), q, d - 1 + 1))
      go_wp2
      all_goals
        go_ret
        refine left_mk (HT2.out.trans ?_) ((HX.out.set (p := ⟨g, 1, none⟩) (.inl rfl) _).set (p := ⟨w.heap.size + 1, 3, none⟩) (.inr (Nat.le_succ _)) _) (blk_far (blk_put HG2.out 1 _ rfl) (p := ⟨w.heap.size + 1, 3, none⟩) hne _)
        clear HT2 HT HD HX HG2 HB HL HF IH HO HQ HM b0 b1 b2 b3 b4 bf hq1 hf1
        rw [show d - 1 + 1 = d by omega]
        simp_all [toList_nil]
theorem takeV_size (n : Nat) : ∀ x : S27, SizeOf.sizeOf x ≤ n → ∀ (p d : Int) (A : Option Addr) (c : Nat) (w : World) (g : Nat) (ok : Nat → Prop), 0 ≤ p → p ≤ 512 → 0 ≤ d → d ≤ 16 → Kd.F k27 w ok A x.f3.length x.f3 → (∀ k, ok k → k ≠ g) →
    w.heap[g]? = some (.cells #[.int .i64 p, .int .i64 d] 108 (0, 0)) →
    Calls Try.prog 55 #[.pointer (some ⟨g, 0, none⟩), .agg #[.int .u8 x.f0, .int .i64 x.f1, .string x.f2, .slice A x.f3.length c, .int .i64 x.f4]] w (Left g (takeV x p d) w) := by
  induction n with
  | zero => intro x hx; cases x; simp at hx
  | succ n ih =>
    intro x hx p d A c w g ok hp hp2 hd hd2 hF hok hg
    by_cases h : p = 0
    · exact take_z x p d A c w g h hg
    have hp : 0 < p := by omega
    by_cases h0 : x.f0 = 0
    · exact take_0 x p d A c w g hp hp2 h0 hg
    by_cases h1 : x.f0 = 1
    · exact take_1 x p d A c w g hp hp2 h1 hg
    by_cases h2 : x.f0 = 2
    · by_cases hs : 256 < x.f2.size
      · exact take_2b x p d A c w g hp hp2 h2 hs hg
      · exact take_2 x p d A c w g hp hp2 h2 hs hg
    by_cases h4 : x.f0 = 4
    · by_cases hs : x.f4 < 1
      · exact take_4b x p d A c w g hp hp2 h4 hs hg
      · exact take_4 x p d A c w g hp hp2 h4 hs hg
    by_cases h3 : x.f0 = 3
    · by_cases hz : d = 0
      · exact take_3a x p d A c w g hp hp2 h3 hz hg
      by_cases hl : p - 1 < (x.f3.length : Int)
      · exact take_3b x p d A c w g hp hp2 h3 hz hl hg
      · refine take_3c x p d A c w g ok hp hp2 h3 (by omega) hd2 hl hF hok hg ?_
        intro y hy p d A c w hp hp2 hd hd2 hF hg
        have hs := List.sizeOf_lt_of_mem hy
        exact ih y (by cases x; simp at hx hs ⊢; omega) p d A c w g ok hp hp2 hd hd2 hF hok hg
    · exact take_5 x p d A c w g hp hp2 h0 h1 h2 h4 h3 hg
theorem take_calls (x : S27) (p d : Int) (A : Option Addr) (c : Nat) (w : World) (g : Nat) (ok : Nat → Prop) (hp : 0 ≤ p) (hp2 : p ≤ 512) (hd : 0 ≤ d) (hd2 : d ≤ 16) (hF : Kd.F k27 w ok A x.f3.length x.f3) (hok : ∀ k, ok k → k ≠ g)
    (hg : w.heap[g]? = some (.cells #[.int .i64 p, .int .i64 d] 108 (0, 0))) :
    Calls Try.prog 55 #[.pointer (some ⟨g, 0, none⟩), .agg #[.int .u8 x.f0, .int .i64 x.f1, .string x.f2, .slice A x.f3.length c, .int .i64 x.f4]] w (Left g (takeV x p d) w) :=
  takeV_size _ x (Nat.le_refl _) p d A c w g ok hp hp2 hd hd2 hF hok hg
set_option maxHeartbeats 400000 in
theorem measure_calls (x : S27) (A : Option Addr) (c : Nat) (w : World) (ok : Nat → Prop) (hF : Kd.F k27 w ok A x.f3.length x.f3) :
    Calls Try.prog 52 #[.agg #[.int .u8 x.f0, .int .i64 x.f1, .string x.f2, .slice A x.f3.length c, .int .i64 x.f4]] w fun e w' => e = .returned (.int .i64 (measureV x)) ∧ Ex (fun _ => False) w w' := by
  have HF := Aside0.mk (Kd.F_bound hF)
  clear hF
  go_enter Try.func52, Try.ntmps52
  go_wp2_with fail
  refine (take_calls x 512 16 A c _ (w.heap.size + 1) (fun k => ok k ∧ k < w.heap.size) (by omega) (by omega) (by omega) (by omega) (Kd.F_alloc (Kd.F_alloc HF.out _) _) (fun k hk => by have := hk.2; omega) (blk_new2 _ _ _)).mono ?_
  rintro e w1 ⟨rfl, hx1, hg1⟩
  have hbd := takeV_bounds x (p := 512) (d := 16) (by omega) (by omega)
  obtain ⟨t, ht⟩ : ∃ t, t = takeV x 512 16 := ⟨_, rfl⟩
  have hm : measureV x = if t.1 then 512 - t.2.1 else 0 := by rw [measureV, ← ht]
  rw [← ht] at hbd hg1
  rw [← ht]
  clear ht
  obtain ⟨b, q, d⟩ := t
  dsimp only at hbd hg1
  have HM := Aside0.mk hm
  clear hm
  have HX1 := Aside0.mk hx1
  have hq0 : w1.cell? ⟨w.heap.size + 1, 0, none⟩ = some (.int .i64 q) := (blk_cell hg1 0).trans rfl
  clear hx1 hg1
  cases b
  · go_wp2
    go_ret
    exact ⟨by rw [HM.out]; rfl, ((Ex.refl _ _).alloc _).alloc _ |>.trans HX1.out (fun b hb => .inr (by subst hb; exact Nat.le_succ _))⟩
  · go_wp2
    go_ret
    exact ⟨by rw [HM.out]; rfl, ((Ex.refl _ _).alloc _).alloc _ |>.trans HX1.out (fun b hb => .inr (by subst hb; exact Nat.le_succ _))⟩
set_option maxHeartbeats 400000 in
theorem may_calls (x : S27) (A : Option Addr) (c : Nat) (w : World) (ok : Nat → Prop) (hF : Kd.F k27 w ok A x.f3.length x.f3) :
    Calls Try.prog 38 #[.agg #[.int .u8 x.f0, .int .i64 x.f1, .string x.f2, .slice A x.f3.length c, .int .i64 x.f4]] w fun e w' => e = .returned (.bool (mayV x)) ∧ Ex (fun _ => False) w w' := by
  have HF := Aside0.mk hF
  clear hF
  go_enter Try.func38, Try.ntmps38
  go_wp2_with fail
  refine (measure_calls x A c _ ok (Kd.F_alloc HF.out _)).mono ?_
  rintro e w1 ⟨rfl, hx1⟩
  have HX1 := Aside0.mk hx1
  clear hx1
  go_wp2
  go_ret
  exact ⟨rfl, ((Ex.refl _ _).alloc _).trans HX1.out (fun _ h => h.elim)⟩
end Go.Proofs.Ythkemcekcfccpaa.PBrandCompares
end
section
namespace Go.Proofs.Ythkemcekcfccpaa.PBrandCompares
open Go.RowKit Go.Proofs.YthkemcekcfccpaaW.PrintWords Go.Proofs.YthkemcekcfccpaaW.PrintLast Go.Proofs.YthkemcekcfccpaaW.PrintMore
open Go.Proofs.Ythkemcekcfccpaa.GBrandCompares
set_option linter.unusedVariables false
set_option linter.unusedSimpArgs false
def Fit : Nat → S27 → Prop
  | 0, x => x.f0 ≠ 3
  | n + 1, x => x.f0 = 3 → x.f3.length ≤ 511 ∧ ∀ y ∈ x.f3, Fit n y
def Marked (n : Nat) (x : S27) (w : World) (e : Ending) (w' : World) : Prop :=
  ∃ m : Mk, MarkOf x m ∧ m.deep ≤ n ∧ e = .returned m.val ∧ Ex (fun _ => False) w w'
theorem marked_mk {n : Nat} {x : S27} {w w' : World} {v : Value} (m : Mk) (h1 : MarkOf x m) (h2 : m.deep ≤ n) (h3 : v = m.val) (h4 : Ex (fun _ => False) w w') : Marked n x w (.returned v) w' := by
  subst h3; exact ⟨m, h1, h2, rfl, h4⟩
abbrev SPEC (n : Nat) (x : S27) (w : World) (A : Option Addr) (c : Nat) : Prop :=
  Calls Try.prog 41 #[.agg #[.int .u8 x.f0, .int .i64 x.f1, .string x.f2, .slice A x.f3.length c, .int .i64 x.f4]] w (Marked n x w)
set_option maxHeartbeats 400000 in
theorem mark_1 (n : Nat) (x : S27) (A : Option Addr) (c : Nat) (w : World) (hk : x.f0 = 1) : SPEC n x w A c := by
  have HK := Aside0.mk hk
  unfold SPEC
  rw [hk]
  clear hk
  go_enter Try.func41, Try.ntmps41
  go_wp2
  go_ret
  exact marked_mk (.number x.f1) ⟨HK.out, rfl⟩ (Nat.zero_le _) rfl ((Ex.refl _ _).alloc _)
set_option maxHeartbeats 400000 in
theorem mark_2 (n : Nat) (x : S27) (A : Option Addr) (c : Nat) (w : World) (hk : x.f0 = 2) : SPEC n x w A c := by
  have HK := Aside0.mk hk
  unfold SPEC
  rw [hk]
  clear hk
  go_enter Try.func41, Try.ntmps41
  go_wp2
  go_ret
  exact marked_mk (.text x.f2) ⟨HK.out, rfl⟩ (Nat.zero_le _) rfl ((Ex.refl _ _).alloc _)
set_option maxHeartbeats 400000 in
theorem mark_4 (n : Nat) (x : S27) (A : Option Addr) (c : Nat) (w : World) (hk : x.f0 = 4) : SPEC n x w A c := by
  have HK := Aside0.mk hk
  unfold SPEC
  rw [hk]
  clear hk
  go_enter Try.func41, Try.ntmps41
  go_wp2
  go_ret
  exact marked_mk (.refer x.f4) ⟨HK.out, rfl⟩ (Nat.zero_le _) rfl ((Ex.refl _ _).alloc _)
set_option maxHeartbeats 400000 in
theorem mark_0 (n : Nat) (x : S27) (A : Option Addr) (c : Nat) (w : World) (h1 : x.f0 ≠ 1) (h2 : x.f0 ≠ 2) (h4 : x.f0 ≠ 4) (h3 : x.f0 ≠ 3) : SPEC n x w A c := by
  have HK := Aside0.mk (And.intro h1 (And.intro h2 (And.intro h4 h3)))
  have b1 : (x.f0 == 1) = false := by simp; omega
  have b2 : (x.f0 == 2) = false := by simp; omega
  have b4 : (x.f0 == 4) = false := by simp; omega
  have b3 : (x.f0 == 3) = false := by simp; omega
  clear h1 h2 h3 h4
  unfold SPEC
  go_enter Try.func41, Try.ntmps41
  go_wp2
  go_ret
  exact marked_mk .nothing HK.out (Nat.zero_le _) rfl ((Ex.refl _ _).alloc _)
theorem spot_none {w : World} {a : Addr} {v : Value} (h : w.cell? a = some v) : a = ⟨a.block, a.off, none⟩ := by
  obtain ⟨b, o, s⟩ := a
  cases s with
  | none => rfl
  | some s =>
    simp only [World.cell?] at h
    split at h <;> simp at h
def PairS (w : World) (B : Obj) (ab ao : Nat) (c : Nat) (A3 B3 : Option Addr) (c3 d3 : Nat) (x y z : S27) (w' : World) : Prop :=
  Ex (fun _ => False) (w.alloc B) w' ∧ w'.cell? ⟨w.heap.size, 3, none⟩ = some (.slice (some ⟨ab, ao, none⟩) x.f3.length c) ∧
    w'.cell? ⟨ab, ao, none⟩ = some (.int .u8 y.f0) ∧ w'.cell? ⟨ab, ao + 1, none⟩ = some (.int .i64 y.f1) ∧ w'.cell? ⟨ab, ao + 2, none⟩ = some (.string y.f2) ∧ w'.cell? ⟨ab, ao + 3, none⟩ = some (.slice A3 y.f3.length c3) ∧ w'.cell? ⟨ab, ao + 4, none⟩ = some (.int .i64 y.f4) ∧
    w'.cell? ⟨ab, ao + 5, none⟩ = some (.int .u8 z.f0) ∧ w'.cell? ⟨ab, ao + 5 + 1, none⟩ = some (.int .i64 z.f1) ∧ w'.cell? ⟨ab, ao + 5 + 2, none⟩ = some (.string z.f2) ∧ w'.cell? ⟨ab, ao + 5 + 3, none⟩ = some (.slice B3 z.f3.length d3) ∧ w'.cell? ⟨ab, ao + 5 + 4, none⟩ = some (.int .i64 z.f4)
set_option maxRecDepth 100000 in
set_option maxHeartbeats 2000000 in
theorem mark_pair (n : Nat) (x : S27) (A : Option Addr) (c : Nat) (w : World) (ok : Nat → Prop) (hk : x.f0 = 3) (hl : x.f3.length = 2) (hF : Kd.F k27 w ok A x.f3.length x.f3)
    (ih : ∀ y ∈ x.f3, ∀ (A : Option Addr) (c : Nat) (w : World), Kd.F k27 w ok A y.f3.length y.f3 → SPEC n y w A c) : SPEC (n + 1) x w A c := by
  have HK := Aside0.mk hk
  have hl0 : ((x.f3.length : Int) == 2) = true := by simp; omega
  obtain ⟨ad, A3, c3, rfl, e0, e1, e2, e3, e4, hc3, hF3⟩ := at_F27 hF 0 (by omega)
  obtain ⟨ad', B3, d3, had, f0, f1, f2, f3, f4, hd3, hG3⟩ := at_F27 hF 1 (by omega)
  cases had
  have hsp := spot_none e0
  rw [show (0 * 5 : Nat) = 0 from rfl, Addr.add, if_pos rfl] at e0 e1 e2 e3 e4 hsp
  rw [show (1 * 5 : Nat) = 5 from rfl, Addr.add, if_neg (by omega)] at f0 f1 f2 f3 f4
  obtain ⟨ab, ao, asp⟩ := ad
  injection hsp with _ _ hsp
  subst hsp
  dsimp only at e0 e1 e2 e3 e4 f0 f1 f2 f3 f4
  have IH0 := Aside0.mk (ih (rd_T27 x.f3 (0 : Nat)) (rd_mem (by omega)))
  have IH1 := Aside0.mk (ih (rd_T27 x.f3 (1 : Nat)) (rd_mem (by omega)))
  have HXS : x.f3 = [rd_T27 x.f3 (0 : Nat), rd_T27 x.f3 (1 : Nat)] := by
    have h0 := rd_drop (xs := x.f3) (i := 0) (by omega)
    have h1 := rd_drop (xs := x.f3) (i := 1) (by omega)
    have h2 : x.f3.drop 2 = [] := by simp; omega
    rw [List.drop_zero, h1, h2] at h0
    exact h0
  have HXS' := Aside0.mk HXS
  have hlt0 : ab < w.heap.size := World.block_lt_of_cell? w _ e0
  have HF3 := Aside0.mk hF3
  have HG3 := Aside0.mk hG3
  generalize rd_T27 x.f3 (0 : Nat) = y at *
  generalize rd_T27 x.f3 (1 : Nat) = z at *
  have hi0 : 0 < x.f3.length := by omega
  have hi1 : 1 < x.f3.length := by omega
  have hi2 : (1 : Int) < (x.f3.length : Int) := by omega
  clear hl hF ih hF3 hG3 HXS
  have HS : Aside0 (∀ w', Ex (fun _ => False) (w.alloc (.cells #[.int .u8 3, .int .i64 x.f1, .string x.f2, .slice (some ⟨ab, ao, none⟩) x.f3.length c, .int .i64 x.f4] 27)) w' → PairS w (.cells #[.int .u8 3, .int .i64 x.f1, .string x.f2, .slice (some ⟨ab, ao, none⟩) x.f3.length c, .int .i64 x.f4] 27) ab ao c A3 B3 c3 d3 x y z w') := ⟨fun w' h => by
    have hq : ∀ i v, w.cell? ⟨ab, i, none⟩ = some v → w'.cell? ⟨ab, i, none⟩ = some v := fun i v hv => by
      rw [h.cell (by simp; omega) (fun h => h)]
      have := (((Ex.refl (fun _ => False) w).alloc (.cells #[.int .u8 3, .int .i64 x.f1, .string x.f2, .slice (some ⟨ab, ao, none⟩) x.f3.length c, .int .i64 x.f4] 27)).cell hlt0 (fun h => h) i).trans hv
      exact this
    exact ⟨h, (blk_cell (h.blk (blk_new1 w _) (fun h => h)) 3).trans rfl, hq _ _ e0, hq _ _ e1, hq _ _ e2, hq _ _ e3, hq _ _ e4, hq _ _ f0, hq _ _ f1, hq _ _ f2, hq _ _ f3, hq _ _ f4⟩⟩
  unfold SPEC
  rw [hk]
  clear hk
  go_enter Try.func41, Try.ntmps41
  go_wp2
  go_region_held3 (fun w' => Ex (fun _ => False) (w.alloc (.cells #[.int .u8 3, .int .i64 x.f1, .string x.f2, .slice (some ⟨ab, ao, none⟩) x.f3.length c, .int .i64 x.f4] 27)) w' ∧ w'.cell? ⟨w.heap.size, 3, none⟩ = some (.slice (some ⟨ab, ao, none⟩) x.f3.length c) ∧
    w'.cell? ⟨ab, ao, none⟩ = some (.int .u8 y.f0) ∧ w'.cell? ⟨ab, ao + 1, none⟩ = some (.int .i64 y.f1) ∧ w'.cell? ⟨ab, ao + 2, none⟩ = some (.string y.f2) ∧ w'.cell? ⟨ab, ao + 3, none⟩ = some (.slice A3 y.f3.length c3) ∧ w'.cell? ⟨ab, ao + 4, none⟩ = some (.int .i64 y.f4) ∧
    w'.cell? ⟨ab, ao + 5, none⟩ = some (.int .u8 z.f0) ∧ w'.cell? ⟨ab, ao + 5 + 1, none⟩ = some (.int .i64 z.f1) ∧ w'.cell? ⟨ab, ao + 5 + 2, none⟩ = some (.string z.f2) ∧ w'.cell? ⟨ab, ao + 5 + 3, none⟩ = some (.slice B3 z.f3.length d3) ∧ w'.cell? ⟨ab, ao + 5 + 4, none⟩ = some (.int .i64 z.f4))
    ((first | exact HS.out _ (Ex.drew (Ex.refl _ _)) | exact HS.out _ (by assumption)))
    (first
      | (go_at_call_of 41 (Value.agg #[Value.int IntKind.u8 y.f0, Value.int IntKind.i64 y.f1, Value.string y.f2, Value.slice A3 y.f3.length c3, Value.int IntKind.i64 y.f4]); refine (IH0.out A3 c3 _ ?_).mono ?_; exact Kd.F_drew (Kd.F_alloc HF3.out _); rintro e w1 ⟨m, h1, h2, rfl, h4⟩; obtain ⟨t1, u1, hu1⟩ := m.val_iface; rw [hu1]; have HU1 := Aside0.mk hu1; clear hu1; have hx1 := Ex.trans (Ex.drew (Ex.refl (fun _ => False) _)) h4 (fun _ h => h.elim); have H1 := Aside0.mk h1; have H2 := Aside0.mk h2; clear h1 h2 h4)
      | (go_at_call_of 41 (Value.agg #[Value.int IntKind.u8 z.f0, Value.int IntKind.i64 z.f1, Value.string z.f2, Value.slice B3 z.f3.length d3, Value.int IntKind.i64 z.f4]); refine (IH1.out B3 d3 _ ?_).mono ?_; exact ex_F hx1 (Kd.F_alloc HG3.out _) (fun _ _ h => h); rintro e w2 ⟨m2, k1, k2, rfl, k4⟩; obtain ⟨t2, u2, hu2⟩ := m2.val_iface; rw [hu2]; have HU2 := Aside0.mk hu2; clear hu2; have hx2 := Ex.trans hx1 k4 (fun _ h => h.elim); have K1 := Aside0.mk k1; have K2 := Aside0.mk k2; clear k1 k2 k4))
  go_wp2
  go_ret
  refine marked_mk (.pair m m2) ⟨HK.out, y, z, HXS'.out, H1.out, K1.out⟩ ?_ (by rw [Mk.val, HU1.out, HU2.out]; rfl) (((Ex.refl _ _).alloc _).trans hx2 (fun _ h => h.elim))
  have h1 := H2.out
  have h2 := K2.out
  simp only [Mk.deep]
  omega
end Go.Proofs.Ythkemcekcfccpaa.PBrandCompares
end
section
namespace Go.Proofs.Ythkemcekcfccpaa.GBrandCompares
open Go.RowKit Go.Proofs.YthkemcekcfccpaaW.PrintWords
set_option linter.unusedVariables false
theorem mine_ex {S : Nat → Prop} {w w1 : World} {base size n : Nat} {e : TypeId} {v : Value} {xs : List Value} (h : w.ownsRow base e size v n xs) (hx : Ex S w w1) (hs : ∀ b, S b → some b ≠ v.ownBlock) : w1.ownsRow base e size v n xs := by
  refine ⟨h.1, ?_⟩
  rcases h.2 with hn | ⟨g, cap, cur, rfl, hb, hg, rest⟩
  · exact .inl hn
  · exact .inr ⟨g, cap, cur, rfl, hb, hx.blk hg (fun h1 => hs g h1 rfl), rest⟩
theorem mine_ex0 {w w1 : World} {base size n : Nat} {e : TypeId} {v : Value} {xs : List Value} (h : w.ownsRow base e size v n xs) (hx : Ex (fun _ => False) w w1) : w1.ownsRow base e size v n xs :=
  mine_ex h hx (fun _ h => h.elim)
theorem mine_ne {w : World} {base size n b : Nat} {e T : TypeId} {v : Value} {xs : List Value} {cs : Array Value} {fz : Nat × Nat} (h : w.ownsRow base e size v n xs) (hb : w.heap[b]? = some (.cells cs T fz)) (hT : T ≠ e) : some b ≠ v.ownBlock := by
  intro e1
  rcases h.2 with ⟨rfl, _⟩ | ⟨g, cap, cur, rfl, _, hg, _⟩
  · simp [Value.ownBlock] at e1
  · simp only [Value.ownBlock, Option.some.injEq] at e1
    subst e1
    rw [hg] at hb
    simp at hb
    exact hT hb.2.1.symm
theorem mine_base {w : World} {base size n b : Nat} {e : TypeId} {v : Value} {xs : List Value} (h : w.ownsRow base e size v n xs) (hb : some b = v.ownBlock) : base ≤ b := by
  rcases h.2 with ⟨rfl, _⟩ | ⟨g, cap, cur, rfl, hg, _⟩
  · simp [Value.ownBlock] at hb
  · simp only [Value.ownBlock, Option.some.injEq] at hb
    omega
theorem mine_form {w : World} {base size n : Nat} {e : TypeId} {v : Value} {xs : List Value} (h : w.ownsRow base e size v (n + 1) xs) : ∃ g cap, v = .slice (some ⟨g, 0, none⟩) (n + 1) cap ∧ base ≤ g ∧ g < w.heap.size ∧ n + 1 ≤ cap := by
  rcases h.2 with ⟨_, h0⟩ | ⟨g, cap, cur, rfl, hb, hg, hn, _⟩
  · omega
  · exact ⟨g, cap, rfl, hb, lt_of_blk hg, hn⟩
section
variable {P : Program} {w : World} {Q : Exit → Act → World → Prop} {a : Act} {o : Oper}
theorem wp_push {K : Act → World → Prop} (s x : Operand) (t : TypeId) (ho : o.op = .call { callee := .builtin .append, args := #[s, x], argTypes := #[t, t] })
    (base : Nat) (e : TypeId) (i : TypeInfo) (z : Value) (bytes : Nat) (ht : P.underlying t = some (.slice e)) (hi : P.info? e = some i) (hz : i.zero = some z) (hsize : i.size = 1) (hby : i.bytes = bytes) (hzs : z.cells.size = 1)
    (v u : Value) (T : TypeId) (n : Nat) (xs : List Value) (hs : a.eval s = v) (hx : a.eval x = .slice (some ⟨w.heap.size, 0, none⟩) 1 1) (hown : w.ownsRow base e 1 v n xs) (hu : u.oneCell' = true)
    (h63 : n + 1 ≤ maxLen) (hbytes : (n + 1) * bytes ≤ 140737488355328) (hbase : base ≤ w.heap.size)
    (h : ∀ v' w', w'.ownsRow base e 1 v' (n + 1) (xs ++ [u]) → Ex (fun b => some b = v.ownBlock) (w.alloc (.cells #[u] T)) w' → K (a.put o.dst v') w') : o.wp P a (w.alloc (.cells #[u] T)) K Q := by
  refine wp_append_own (w.alloc (.cells #[u] T)) s x t ho base e i z 1 bytes ht hi hz hsize hby hzs (by omega) v n xs hs (mine_ex0 hown ((Ex.refl _ _).alloc _)) ⟨w.heap.size, 0, none⟩ 1 1 [u] hx rfl ?_ ?_ h63 hbytes (Nat.le_trans hbase (by simp)) ?_
  · intro j y hj
    cases j with
    | zero =>
      simp at hj
      subst hj
      rw [Addr.add, if_pos rfl]
      exact (blk_cell (blk_new1 w _) 0).trans rfl
    | succ j => simp at hj
  · simpa using hu
  · intro v' w' h1 h2 _
    exact h v' w' h1 ⟨h2.os, h2.tape, h2.output, h2.size, fun b hb hn => h2.block b hb hn⟩
theorem step_push {ops : Array Oper} {E : Prop} {K : Act → World → Prop} (hg : o.guard = none) (s x : Operand) (t : TypeId) (ho : o.op = .call { callee := .builtin .append, args := #[s, x], argTypes := #[t, t] })
    (base : Nat) (e : TypeId) (i : TypeInfo) (z : Value) (bytes : Nat) (ht : P.underlying t = some (.slice e)) (hi : P.info? e = some i) (hz : i.zero = some z) (hsize : i.size = 1) (hby : i.bytes = bytes) (hzs : z.cells.size = 1)
    (v u : Value) (T : TypeId) (n : Nat) (xs : List Value) (hs : a.eval s = v) (hx : a.eval x = .slice (some ⟨w.heap.size, 0, none⟩) 1 1) (hown : w.ownsRow base e 1 v n xs) (hu : u.oneCell' = true)
    (h63 : n + 1 ≤ maxLen) (hbytes : (n + 1) * bytes ≤ 140737488355328) (hbase : base ≤ w.heap.size)
    (h : ∀ v' w', w'.ownsRow base e 1 v' (n + 1) (xs ++ [u]) → Ex (fun b => some b = v.ownBlock) (w.alloc (.cells #[u] T)) w' → K (a.put o.dst v') w') :
    if Region.wanted o (yielded ops a.tmps) = true then Oper.wp P o a (w.alloc (.cells #[u] T)) K Q else E := by
  have hw : Region.wanted o (yielded ops a.tmps) = true := by simp [Region.wanted, hg]
  rw [if_pos hw]
  exact wp_push s x t ho base e i z bytes ht hi hz hsize hby hzs v u T n xs hs hx hown hu h63 hbytes hbase h
end
end Go.Proofs.Ythkemcekcfccpaa.GBrandCompares
end
section
namespace Go.Proofs.Ythkemcekcfccpaa.PBrandCompares
open Go.RowKit Go.Proofs.YthkemcekcfccpaaW.PrintWords Go.Proofs.YthkemcekcfccpaaW.PrintLast Go.Proofs.YthkemcekcfccpaaW.PrintMore
open Go.Proofs.Ythkemcekcfccpaa.GBrandCompares
set_option linter.unusedVariables false
set_option linter.unusedSimpArgs false
theorem info45 : (Try.prog.info? 45).map (fun i => (i.zero, i.size, i.bytes)) = some (some .nilIface, 1, 16) := by kernel_rfl
set_option maxRecDepth 100000 in
set_option maxHeartbeats 2000000 in
theorem mark_row (n : Nat) (x : S27) (A : Option Addr) (c : Nat) (w : World) (ok : Nat → Prop) (hk : x.f0 = 3) (hl : x.f3.length ≠ 2) (hl2 : x.f3.length ≤ 511) (hF : Kd.F k27 w ok A x.f3.length x.f3)
    (ih : ∀ y ∈ x.f3, ∀ (A : Option Addr) (c : Nat) (w : World), Kd.F k27 w ok A y.f3.length y.f3 → SPEC n y w A c) : SPEC (n + 1) x w A c := by
  have HK := Aside0.mk (And.intro hk hl)
  have hl0 : ((x.f3.length : Int) == 2) = false := by simp; omega
  have HF := Aside0.mk hF
  have IH := Aside0.mk ih
  obtain ⟨i0, hi, hz0, hz1, hz2⟩ := info_parts info45
  have HI := Aside0.mk (And.intro hi (And.intro hz0 (And.intro hz1 hz2)))
  clear hl hF ih hi hz0 hz1 hz2
  unfold SPEC
  rw [hk]
  clear hk
  go_enter Try.func41, Try.ntmps41
  go_wp2
  go_loopg [44] x.f3.length (fun m v wr => ∃ (k : Nat) (vs : Value) (xs : List Value), v = .int .i64 k ∧ Aside0 (k + m = x.f3.length) ∧ Aside0 (Ex (fun _ => False) w wr) ∧
    Aside0 (wr.heap[w.heap.size + 1]? = some (.cells #[vs] 103 (0, 0))) ∧ Aside0 (wr.ownsRow w.heap.size 45 1 vs k xs))
  case atStart =>
    exact ⟨0, .slice none 0 0, [], rfl, ⟨by omega⟩, ⟨((Ex.refl _ _).alloc _).alloc _⟩, ⟨blk_new2 _ _ _⟩, ⟨by simp [World.ownsRow]⟩⟩
  case round =>
    obtain ⟨k, vs, xs, rfl, HM, HX, HB, HO⟩ := hrel
    by_cases hk : k < x.f3.length
    · have hF2 := ex_F HX.out HF.out (fun _ _ h => h)
      obtain ⟨ad, A3, c3, rfl, e0, e1, e2, e3, e4, hc3, hF3⟩ := at_F27 hF2 k hk
      have HF3 := Aside0.mk hF3
      clear hF2 hF3
      have hb0 : wr.cell? ⟨w.heap.size + 1, 0, none⟩ = some vs := (blk_cell HB.out 0).trans rfl
      have hbf := blk_frozen HB.out 0
      have hbl := lt_of_blk HB.out
      have hkk : (k : Int) < (x.f3.length : Int) := by omega
      have hkb : (k : Int) < 511 := by omega
      go_wp2
      go_region_law (first
        | (refine goes_ Try.func41 (by kernel_rfl) rfl #[.agg #[.int .u8 (rd_T27 x.f3 k).f0, .int .i64 (rd_T27 x.f3 k).f1, .string (rd_T27 x.f3 k).f2, .slice A3 (rd_T27 x.f3 k).f3.length c3, .int .i64 (rd_T27 x.f3 k).f4]] (by rfl) rfl rfl (by (try simp only [List.map_toArray, List.map_cons, List.map_nil]); first | done | rfl) ?_; refine (IH.out (rd_T27 x.f3 k) (rd_mem hk) A3 c3 _ ?_).mono ?_; (first | exact Kd.F_drew (Kd.F_alloc HF3.out _) | exact Kd.F_alloc HF3.out _); rintro e w1 ⟨m, h1, h2, rfl, h4⟩; obtain ⟨t1, u1, hu1⟩ := m.val_iface; refine ⟨_, rfl, ?_⟩; rw [hu1]; clear hu1 h1 h2; have HX1 := Aside0.mk h4; clear h4; have HB1 := Aside0.mk (HX1.out.blk (b := w.heap.size + 1) (blk_drew (blk_alloc HB.out _)) (fun h => h)); have hb1 := (blk_cell HB1.out 0).trans rfl; have hf1 := blk_frozen HB1.out 0; have hl1 := lt_of_blk HB1.out)
        | (refine step_push (by rfl) (.tmp 49) (.tmp 52) 101 (by rfl) w.heap.size 45 i0 .nilIface 16 Try.underlying101 HI.out.1 HI.out.2.1 HI.out.2.2.1 HI.out.2.2.2 (by rfl) vs (.iface t1 u1) 45 k xs (by rfl) (by rfl) (mine_ex0 (mine_ex0 HO.out (((Ex.refl _ _).alloc _).drew)) HX1.out) rfl (by simp [maxLen]; omega) (by omega) (by have := HX.out.size; have := HX1.out.size; simp at this; omega) ?_; intro v' w2 ho2 hx2; obtain ⟨g, cap, rfl, hg1, hg2, hg3⟩ := mine_form ho2; have HB2 := Aside0.mk (hx2.blk (blk_alloc HB1.out _) (mine_ne HO.out HB.out (by decide))); have HO2 := Aside0.mk ho2; have HX2 := Aside0.mk hx2; clear ho2 hx2; have hb2 := (blk_cell HB2.out 0).trans rfl; have hf2 := blk_frozen HB2.out 0; have hl2 := lt_of_blk HB2.out))
      all_goals
        clear hb1 hf1 hl1 hb2 hf2 hl2
        have HX3 := Aside0.mk (((((HX.out.alloc _).drew).trans HX1.out (fun _ h => h.elim)).alloc _).trans HX2.out (fun b hb => .inr (mine_base HO.out hb)))
        have HN3 := Aside0.mk (mine_ne HO2.out HB2.out (by decide))
        go_wp2
        go_roundg (gk - 1)
        case measure => have := HM.out; omega
        case rel =>
          exact ⟨k + 1, _, _, by go_num, ⟨by have := HM.out; omega⟩, ⟨HX3.out.set (p := ⟨w.heap.size + 1, 0, none⟩) (.inr (Nat.le_succ _)) _⟩, ⟨blk_put HB2.out 0 _ rfl⟩,
            ⟨mine_ex HO2.out ((Ex.refl (fun b => b = w.heap.size + 1) _).set (p := ⟨w.heap.size + 1, 0, none⟩) (.inl rfl) _) (fun b hb => by rw [hb]; exact HN3.out)⟩⟩
    · have hb0 : wr.cell? ⟨w.heap.size + 1, 0, none⟩ = some vs := (blk_cell HB.out 0).trans rfl
      have hkk : ¬ (k : Int) < (x.f3.length : Int) := by omega
      go_wp2
      go_ret
      exact marked_mk (.row vs) HK.out (Nat.zero_le _) rfl HX.out
end Go.Proofs.Ythkemcekcfccpaa.PBrandCompares
end
section
namespace Go.Proofs.Ythkemcekcfccpaa.PBrandCompares
open Go.RowKit Go.Proofs.YthkemcekcfccpaaW.PrintWords Go.Proofs.YthkemcekcfccpaaW.PrintLast Go.Proofs.YthkemcekcfccpaaW.PrintMore
open Go.Proofs.Ythkemcekcfccpaa.GBrandCompares
set_option linter.unusedVariables false
set_option linter.unusedSimpArgs false
theorem mark_fit (n : Nat) : ∀ (x : S27) (ok : Nat → Prop) (A : Option Addr) (c : Nat) (w : World), Fit n x → Kd.F k27 w ok A x.f3.length x.f3 → SPEC n x w A c := by
  induction n with
  | zero =>
    intro x ok A c w hf hF
    by_cases h1 : x.f0 = 1
    · exact mark_1 0 x A c w h1
    by_cases h2 : x.f0 = 2
    · exact mark_2 0 x A c w h2
    by_cases h4 : x.f0 = 4
    · exact mark_4 0 x A c w h4
    · exact mark_0 0 x A c w h1 h2 h4 hf
  | succ n ih =>
    intro x ok A c w hf hF
    by_cases h1 : x.f0 = 1
    · exact mark_1 _ x A c w h1
    by_cases h2 : x.f0 = 2
    · exact mark_2 _ x A c w h2
    by_cases h4 : x.f0 = 4
    · exact mark_4 _ x A c w h4
    by_cases h3 : x.f0 = 3
    · obtain ⟨hl, hy⟩ := hf h3
      by_cases h : x.f3.length = 2
      · exact mark_pair n x A c w ok h3 h hF (fun y hm A c w hF => ih y ok A c w (hy y hm) hF)
      · exact mark_row n x A c w ok h3 h hl hF (fun y hm A c w hF => ih y ok A c w (hy y hm) hF)
    · exact mark_0 _ x A c w h1 h2 h4 h3
theorem take_fit (n : Nat) : (∀ x : S27, SizeOf.sizeOf x ≤ n → ∀ p d, 0 ≤ p → p ≤ 512 → 0 ≤ d → (takeV x p d).1 = true → Fit d.toNat x) ∧
    (∀ l : List S27, SizeOf.sizeOf l ≤ n → ∀ p d, 0 ≤ p → p ≤ 512 → 0 ≤ d → (takeL l p d).1 = true → ∀ y ∈ l, Fit d.toNat y) := by
  induction n with
  | zero =>
    refine ⟨fun x hx => ?_, fun l hl => ?_⟩
    · cases x; simp at hx
    · cases l <;> simp at hl
  | succ n ih =>
    refine ⟨fun x hx p d hp hp2 hd ht => ?_, fun l hl p d hp hp2 hd ht => ?_⟩
    · by_cases h3 : x.f0 = 3
      · by_cases hz : p = 0
        · rw [takeV_z hz] at ht; simp at ht
        rw [takeV_3 hz h3] at ht
        split at ht
        · simp at ht
        · rename_i hn
          have hd1 : 1 ≤ d := by omega
          obtain ⟨m, hm⟩ : ∃ m, d.toNat = m + 1 := ⟨d.toNat - 1, by omega⟩
          rw [hm]
          intro _
          refine ⟨by omega, ?_⟩
          have hs : SizeOf.sizeOf x.f3 ≤ n := by cases x; simp at hx ⊢; omega
          have h := ih.2 x.f3 hs (p - 1) (d - 1) (by omega) (by omega) (by omega)
          rw [show (d - 1).toNat = m by omega] at h
          apply h
          generalize takeL x.f3 (p - 1) (d - 1) = t at ht
          obtain ⟨b, p', d'⟩ := t
          cases b
          · simp at ht
          · rfl
      · cases h : d.toNat with
        | zero => exact h3
        | succ m => exact fun h => absurd h h3
    · cases l with
      | nil => simp
      | cons x l =>
        have hx : SizeOf.sizeOf x ≤ n := by simp at hl; omega
        have hl : SizeOf.sizeOf l ≤ n := by simp at hl; omega
        unfold takeL at ht
        have hb := takeV_bounds x hp hd
        have h1 := ih.1 x hx p d hp hp2 hd
        generalize takeV x p d = t at ht hb h1
        obtain ⟨b, p', d'⟩ := t
        cases b
        · simp at ht
        · dsimp only at ht hb h1
          have h5 := hb.2.2.2.2 rfl
          subst h5
          have h2 := ih.2 l hl p' d' hb.1 (by omega) hd ht
          intro y hy
          rcases List.mem_cons.1 hy with rfl | hy
          · exact h1 rfl
          · exact h2 y hy
theorem may_fit {x : S27} (h : mayV x = true) : Fit 16 x := by
  refine (take_fit _).1 x (Nat.le_refl _) 512 16 (by omega) (by omega) (by omega) ?_
  simp only [mayV, measureV, decide_eq_true_eq] at h
  split at h
  · assumption
  · simp at h
theorem mark_calls (x : S27) (ok : Nat → Prop) (A : Option Addr) (c : Nat) (w : World) (h : mayV x = true) (hF : Kd.F k27 w ok A x.f3.length x.f3) : SPEC 16 x w A c :=
  mark_fit 16 x ok A c w (may_fit h) hF
set_option maxHeartbeats 400000 in
theorem of_no (x : S27) (A : Option Addr) (c : Nat) (w : World) (ok : Nat → Prop) (hF : Kd.F k27 w ok A x.f3.length x.f3) (hm : mayV x = false) :
    Calls Try.prog 18 #[.agg #[.int .u8 x.f0, .int .i64 x.f1, .string x.f2, .slice A x.f3.length c, .int .i64 x.f4]] w fun e w' => e = .returned (.tuple #[.nilIface, .int .i64 2]) ∧ Ex (fun _ => False) w w' := by
  have HF := Aside0.mk hF
  have HM := Aside0.mk hm
  clear hF hm
  go_enter Try.func18, Try.ntmps18
  go_wp2_with fail
  refine (may_calls x A c _ ok (Kd.F_alloc HF.out _)).mono ?_
  rintro e w1 ⟨rfl, hx1⟩
  have HX1 := Aside0.mk hx1
  clear hx1
  rw [HM.out]
  go_wp2
  go_ret2
  exact ⟨rfl, ((Ex.refl _ _).alloc _).trans HX1.out (fun _ h => h.elim)⟩
set_option maxHeartbeats 400000 in
theorem of_yes (x : S27) (A : Option Addr) (c : Nat) (w : World) (ok : Nat → Prop) (hF : Kd.F k27 w ok A x.f3.length x.f3) (hm : mayV x = true) :
    Calls Try.prog 18 #[.agg #[.int .u8 x.f0, .int .i64 x.f1, .string x.f2, .slice A x.f3.length c, .int .i64 x.f4]] w fun e w' => ∃ m : Mk, MarkOf x m ∧ m.deep ≤ 16 ∧ e = .returned (.tuple #[m.val, .int .i64 0]) ∧ Ex (fun _ => False) w w' := by
  have HF := Aside0.mk hF
  have HM := Aside0.mk hm
  clear hF hm
  go_enter Try.func18, Try.ntmps18
  go_wp2_with fail
  refine (may_calls x A c _ ok (Kd.F_alloc HF.out _)).mono ?_
  rintro e w1 ⟨rfl, hx1⟩
  have HF1 := Aside0.mk (ex_F hx1 (Kd.F_alloc HF.out _) (fun _ _ h => h))
  obtain ⟨hc, hf⟩ := hx1.cells
  have HX1 := Aside0.mk (((Ex.refl (fun _ => False) w).alloc _).trans hx1 (fun _ h => h.elim))
  clear hx1
  have hm' := HM.out
  rw [hm']
  clear hm'
  go_wp2_with fail
  refine (mark_calls x ok A c _ HM.out HF1.out).mono ?_
  rintro e w2 ⟨m, h1, h2, rfl, h4⟩
  have HH := Aside0.mk (And.intro h1 (And.intro h2 (HX1.out.trans h4 (fun _ h => h.elim))))
  clear h1 h2 h4 hc hf
  go_wp2
  go_ret2
  exact ⟨m, HH.out.1, HH.out.2.1, rfl, HH.out.2.2⟩
end Go.Proofs.Ythkemcekcfccpaa.PBrandCompares
end
section
namespace Go.Proofs.Ythkemcekcfccpaa.PBrandCompares
open Go.RowKit Go.Proofs.YthkemcekcfccpaaW.PrintWords Go.Proofs.YthkemcekcfccpaaW.PrintLast Go.Proofs.YthkemcekcfccpaaW.PrintMore
open Go.Proofs.Ythkemcekcfccpaa.GBrandCompares
set_option linter.unusedVariables false
set_option linter.unusedSimpArgs false
theorem catch_idle (p : Addr) (w : World) :
    CallsD Try.prog 49 #[.pointer (some p)] .returning w fun e u' w' => e = .returned (.tuple #[]) ∧ u' = .returning ∧ w' = w := by
  refine callsD_of_wpS Try.func49 rfl fun c₀ cs hu => ?_
  apply wpS_seq
  apply wpS_region
  simp [wpOpsS, go_sem, recoverD, hu, Try.ntmps49, Exit.thenS]
  refine wpS_of_wp ?_
  rw [show #[Value.pointer (some p)] ++ ((Array.replicate 14 undef).setIfInBounds 3 Value.nilIface).setIfInBounds 0 Value.nilIface = #[Value.pointer (some p), .nilIface, undef, undef, .nilIface, undef, undef, undef, undef, undef, undef, undef, undef, undef, undef] from rfl]
  go_wp2
  cases c₀
  simp_all [bodyPostS, results, Try.results49]
theorem assert10 (v : Value) (w : World) : (Instr.typeAssert (.iface 10 v) 20 91 true).run Try.prog w = .ok (.tuple #[.iface 10 v, .bool true]) w := by kernel_rfl
theorem assert19 (v : Value) (w : World) : (Instr.typeAssert (.iface 19 v) 20 91 true).run Try.prog w = .ok (.tuple #[.iface 19 v, .bool true]) w := by kernel_rfl
theorem catch_panicking (p : Addr) (u : TypeId) (hu : u = 10 ∨ u = 19) (pv : Value) (older : List PanicEntry) (w : World) (hc : w.cell? p = some (.bool false)) (hz : w.frozen? p = false) :
    CallsD Try.prog 49 #[.pointer (some p)] (.panicking ({ v := .iface u pv, recovered := false } :: older)) w fun e u' w' =>
      e = .returned (.tuple #[]) ∧ u' = .panicking ({ v := .iface u pv, recovered := true } :: older) ∧ w' = w.setCell p (.bool true) := by
  have ha : (Instr.typeAssert (.iface u pv) 20 91 true).run Try.prog w = .ok (.tuple #[.iface u pv, .bool true]) w := by
    rcases hu with rfl | rfl
    · exact assert10 pv w
    · exact assert19 pv w
  clear hu
  refine callsD_of_wpS Try.func49 rfl fun c₀ cs hm => ?_
  apply wpS_seq
  apply wpS_region
  simp [wpOpsS, go_sem, recoverD, hm, Try.ntmps49, Exit.thenS]
  refine wpS_of_wp ?_
  rw [show #[Value.pointer (some p)] ++ ((Array.replicate 14 undef).setIfInBounds 3 (Value.iface u pv)).setIfInBounds 0 (Value.iface u pv) = #[Value.pointer (some p), .iface u pv, undef, undef, .iface u pv, undef, undef, undef, undef, undef, undef, undef, undef, undef, undef] from rfl]
  go_wp2
  cases c₀
  simp_all [bodyPostS, results, Try.results49]
theorem met_ok (g : FuncId) (caps : Array Value) (S : Nat → Prop) (R : World → Prop) (w : World) (hS : ∀ b, S b → b < w.heap.size) (hen : ∀ w, (callFunc g caps).run Try.prog w = .ok (.enter g caps) w)
    (h : Calls Try.prog g caps (w.alloc (.cells #[.bool false] 4)) fun e w' => e = .returned (.tuple #[]) ∧ Ex S (w.alloc (.cells #[.bool false] 4)) w' ∧ R w') :
    Calls Try.prog 30 #[.func (.func g) #[] caps] w fun e w' => e = .returned (.bool false) ∧ ∃ w1, R w1 ∧ Ex S (w.alloc (.cells #[.bool false] 4)) w1 ∧ w' = w1.setCell ⟨w.heap.size, 0, none⟩ (.bool false) := by
  have hmf : ∀ (fn : Fn) (first cap : Array Value) (w : World), (Instr.makeFunc fn first cap).run Try.prog w = .ok (.func fn first cap) w := fun _ _ _ _ => rfl
  have H := Aside0.mk h
  have HS := Aside0.mk hS
  clear h hS
  go_enter_defers Try.func30, Try.ntmps30
  go_wp2_with fail
  refine H.out.mono ?_
  rintro e w1 ⟨rfl, hx, hr⟩
  have HX := Aside0.mk hx
  have HR := Aside0.mk hr
  have HB := Aside0.mk (hx.blk (blk_new1 w _) (fun h => absurd (HS.out _ h) (Nat.lt_irrefl _)))
  clear hx hr
  have hc := (blk_cell HB.out 0).trans rfl
  have hf := blk_frozen HB.out 0
  have hl := lt_of_blk HB.out
  go_wp2
  refine leaves_cons (f := 49) (args := #[.pointer (some ⟨w.heap.size, 0, none⟩)]) (by simp) (by simp [go_sem]) ?_
  refine (catch_idle ⟨w.heap.size, 0, none⟩ _).mono ?_
  rintro e u' w'' ⟨rfl, rfl, rfl⟩
  simp [Leaves, settle, results, Try.results30, go_sem]
  rw [(blk_cell (blk_put HB.out 0 (.bool false) rfl) 0).trans rfl]
  exact ⟨_, rfl, rfl, w1, HR.out, HX.out, rfl⟩
theorem met_panic (g : FuncId) (caps : Array Value) (S : Nat → Prop) (R : World → Prop) (w : World) (hS : ∀ b, S b → b < w.heap.size) (hen : ∀ w, (callFunc g caps).run Try.prog w = .ok (.enter g caps) w)
    (h : Calls Try.prog g caps (w.alloc (.cells #[.bool false] 4)) fun e w' => (∃ u pv, (u = 10 ∨ u = 19) ∧ e = .panicked [{ v := .iface u pv, recovered := false }]) ∧ Ex S (w.alloc (.cells #[.bool false] 4)) w' ∧ R w') :
    Calls Try.prog 30 #[.func (.func g) #[] caps] w fun e w' => e = .returned (.bool true) ∧ ∃ w1, R w1 ∧ Ex S (w.alloc (.cells #[.bool false] 4)) w1 ∧ w' = w1.setCell ⟨w.heap.size, 0, none⟩ (.bool true) := by
  have hmf : ∀ (fn : Fn) (first cap : Array Value) (w : World), (Instr.makeFunc fn first cap).run Try.prog w = .ok (.func fn first cap) w := fun _ _ _ _ => rfl
  have H := Aside0.mk h
  have HS := Aside0.mk hS
  clear h hS
  go_enter_defers Try.func30, Try.ntmps30
  go_wp2_with fail
  refine H.out.mono ?_
  rintro e w1 ⟨⟨u, pv, hu, rfl⟩, hx, hr⟩
  have HU := Aside0.mk hu
  clear hu
  have HX := Aside0.mk hx
  have HR := Aside0.mk hr
  have HB := Aside0.mk (hx.blk (blk_new1 w _) (fun h => absurd (HS.out _ h) (Nat.lt_irrefl _)))
  clear hx hr
  have hc := (blk_cell HB.out 0).trans rfl
  have hf := blk_frozen HB.out 0
  have hl := lt_of_blk HB.out
  go_wp2
  refine leaves_cons (f := 49) (args := #[.pointer (some ⟨w.heap.size, 0, none⟩)]) (by simp) (by simp [go_sem]) ?_
  refine (catch_panicking ⟨w.heap.size, 0, none⟩ u HU.out pv [] _ hc hf).mono ?_
  rintro e u' w'' ⟨rfl, rfl, rfl⟩
  simp [Leaves, settle, results, Try.results30, go_sem]
  rw [(blk_cell (blk_put HB.out 0 (.bool true) rfl) 0).trans rfl]
  exact ⟨_, rfl, rfl, w1, HR.out, HX.out, rfl⟩
theorem deep_enough {n : Nat} (h : n ≤ 16) : 2 * n + 2 ≤ Op.maxDepth := by
  show _ ≤ 10000
  omega
theorem eq_of {a b : Mk} {t1 t2 : TypeId} {u1 u2 : Value} {ev : Operand → Value} {o : Oper} {x y : Operand} (ha : a.deep ≤ 16) (h1 : a.val = .iface t1 u1) (h2 : b.val = .iface t2 u2) (ho : o.op = .binOp .eql 45 x y 45) (hx : ev x = .iface t1 u1) (hy : ev y = .iface t2 u2) (w : World) :
    (execOp ev o).run Try.prog w = (eqRes (a.cmp b) w).andThen fun b w => .ok (.value (.bool b)) w := by
  rw [run_eql ho hx hy, ← h1, ← h2, eq_marks a b _ _ (deep_enough ha)]
theorem same_marks (a b : Mk) (ha : a.deep ≤ 16) (ga gb gc : Nat) (w : World) (h1 : w.heap[ga]? = some (.cells #[a.val] 45 (0, 0))) (h2 : w.heap[gb]? = some (.cells #[b.val] 45 (0, 0))) (h3 : w.heap[gc]? = some (.cells #[.int .u8 0] 30 (0, 0))) (hc : a.cmp b = 1) :
    Calls Try.prog 31 #[.pointer (some ⟨ga, 0, none⟩), .pointer (some ⟨gb, 0, none⟩), .pointer (some ⟨gc, 0, none⟩)] w fun e w' => e = .returned (.tuple #[]) ∧ w' = w.setCell ⟨gc, 0, none⟩ (.int .u8 1) := by
  have hl1 := lt_of_blk h1
  have hl2 := lt_of_blk h2
  have hl3 := lt_of_blk h3
  have c1 := (blk_cell h1 0).trans rfl
  have c2 := (blk_cell h2 0).trans rfl
  have c3 := (blk_cell h3 0).trans rfl
  have f3 := blk_frozen h3 0
  clear h1 h2 h3
  obtain ⟨t1, u1, hu1⟩ := a.val_iface
  obtain ⟨t2, u2, hu2⟩ := b.val_iface
  rw [hu1] at c1
  rw [hu2] at c2
  have HU := Aside0.mk (And.intro hu1 hu2)
  have HC := Aside0.mk hc
  have HA := Aside0.mk ha
  clear hc ha hu1 hu2
  go_enter Try.func31, Try.ntmps31
  go_wp2_with (refine valueL (some 5) rfl rfl (.bool true) ((eq_of HA.out HU.out.1 HU.out.2 rfl rfl rfl _).trans (by rw [HC.out]; rfl)) ?_)
  first | refine bodyPost_ret (results_none rfl _ _ _) rfl ?_ | refine bodyPost_end (results_none rfl _ _ _) rfl ?_
  exact ⟨rfl, rfl⟩
theorem unlike_marks (a b : Mk) (ha : a.deep ≤ 16) (ga gb gc : Nat) (w : World) (h1 : w.heap[ga]? = some (.cells #[a.val] 45 (0, 0))) (h2 : w.heap[gb]? = some (.cells #[b.val] 45 (0, 0))) (hc : a.cmp b = 0) :
    Calls Try.prog 31 #[.pointer (some ⟨ga, 0, none⟩), .pointer (some ⟨gb, 0, none⟩), .pointer (some ⟨gc, 0, none⟩)] w fun e w' => e = .returned (.tuple #[]) ∧ w' = w := by
  have hl1 := lt_of_blk h1
  have hl2 := lt_of_blk h2
  have c1 := (blk_cell h1 0).trans rfl
  have c2 := (blk_cell h2 0).trans rfl
  clear h1 h2
  obtain ⟨t1, u1, hu1⟩ := a.val_iface
  obtain ⟨t2, u2, hu2⟩ := b.val_iface
  rw [hu1] at c1
  rw [hu2] at c2
  have HU := Aside0.mk (And.intro hu1 hu2)
  have HC := Aside0.mk hc
  have HA := Aside0.mk ha
  clear hc ha hu1 hu2
  go_enter Try.func31, Try.ntmps31
  go_wp2_with (refine valueL (some 5) rfl rfl (.bool false) ((eq_of HA.out HU.out.1 HU.out.2 rfl rfl rfl _).trans (by rw [HC.out]; rfl)) ?_)
  first | refine bodyPost_ret (results_none rfl _ _ _) rfl ?_ | refine bodyPost_end (results_none rfl _ _ _) rfl ?_
  exact ⟨rfl, rfl⟩
theorem panic_marks (a b : Mk) (ha : a.deep ≤ 16) (ga gb gc : Nat) (w : World) (h1 : w.heap[ga]? = some (.cells #[a.val] 45 (0, 0))) (h2 : w.heap[gb]? = some (.cells #[b.val] 45 (0, 0))) (hc : a.cmp b = 2) :
    Calls Try.prog 31 #[.pointer (some ⟨ga, 0, none⟩), .pointer (some ⟨gb, 0, none⟩), .pointer (some ⟨gc, 0, none⟩)] w fun e w' => e = .panicked [{ v := .iface 10 (strVal "comparing uncomparable type brand.row"), recovered := false }] ∧ w' = w := by
  have hl1 := lt_of_blk h1
  have hl2 := lt_of_blk h2
  have c1 := (blk_cell h1 0).trans rfl
  have c2 := (blk_cell h2 0).trans rfl
  clear h1 h2
  obtain ⟨t1, u1, hu1⟩ := a.val_iface
  obtain ⟨t2, u2, hu2⟩ := b.val_iface
  rw [hu1] at c1
  rw [hu2] at c2
  have HU := Aside0.mk (And.intro hu1 hu2)
  have HC := Aside0.mk hc
  have HA := Aside0.mk ha
  clear hc ha hu1 hu2
  go_enter Try.func31, Try.ntmps31
  go_wp2_with (refine panicL (some 5) rfl rfl (.iface 10 (strVal "comparing uncomparable type brand.row")) ((eq_of HA.out HU.out.1 HU.out.2 rfl rfl rfl _).trans (by rw [HC.out]; rfl)) ?_)
  exact ⟨rfl, rfl, rfl⟩
end Go.Proofs.Ythkemcekcfccpaa.PBrandCompares
end
section
namespace Go.Proofs.Ythkemcekcfccpaa.PBrandCompares
open Go.RowKit Go.Proofs.YthkemcekcfccpaaW.PrintWords Go.Proofs.YthkemcekcfccpaaW.PrintLast Go.Proofs.YthkemcekcfccpaaW.PrintMore
open Go.Proofs.Ythkemcekcfccpaa.GBrandCompares
set_option linter.unusedVariables false
set_option linter.unusedSimpArgs false
theorem info3 : (Try.prog.info? 3).map (fun i => (i.zero, i.size, i.bytes)) = some (some (.int .i64 0), 1, 8) := by kernel_rfl
def setB (w : World) (r : Nat) (o : Obj) : World := { w with heap := w.heap.setIfInBounds r o }
theorem setB_blk {w : World} {r : Nat} {o o' : Obj} (h : w.heap[r]? = some o) : (setB w r o').heap[r]? = some o' := (Go.MapKept.heap_set h).1
theorem setB_ne (w : World) (r : Nat) (o : Obj) {b : Nat} (h : b ≠ r) : (setB w r o).heap[b]? = w.heap[b]? := by simp [setB, Ne.symm h]
theorem ex_setB {S : Nat → Prop} {w w1 : World} (h : Ex S w w1) {r : Nat} (hr : S r ∨ w.heap.size ≤ r) (o : Obj) : Ex S w (setB w1 r o) :=
  h.trans (S2 := fun b => b = r) ⟨rfl, rfl, rfl, by simp [setB], fun b _ hn => setB_ne w1 r o hn⟩ (fun b hb => hb ▸ hr)
theorem make_map (t : TypeId) (w : World) : (Instr.makeMap t none).run Try.prog w = .ok (.map (some w.heap.size)) (w.alloc (.map #[] 0)) := by
  simp [Instr.makeMap]
theorem run_entry0 {w : World} {r clock : Nat} {a : Mk} (t e : TypeId) (ht : Try.prog.underlying t = some (.map 45 e)) {i : TypeInfo} (hi : Try.prog.info? e = some i) {z : Value} (hz : i.zero = some z) (hb : w.heap[r]? = some (.map #[] clock)) (ha : Key a) :
    (Instr.mapEntry t (.map (some r)) a.val).run Try.prog w = .ok (.tuple #[z, goInt clock]) (setB w r (.map #[{ key := a.val, val := z, born := clock }] (clock + 1))) := by
  unfold Instr.mapEntry
  rw [Sem.run_bind, run_underlying ht, Result.andThen_ok]
  simp only [Sem.run_bind, Go.MapKept.run_getObj_map hb, Result.andThen_ok, Sem.run_pure, check_ok a ha, find_key a ha [] [] _ (by simp) rfl]
  simp [posMk, zeroValue, typeInfo, hi, hz, Result.andThen, Go.MapKept.run_setObj_map _ hb, setB]
theorem run_estore0 {w : World} {r clock : Nat} {k z : Value} (t : TypeId) (x : Value) (hb : w.heap[r]? = some (.map #[{ key := k, val := z, born := 0 }] clock)) :
    (Instr.entryStore t (.map (some r)) (.int .i64 0) x).run Try.prog w = .ok () (setB w r (.map #[{ key := k, val := x, born := 0 }] clock)) := by
  unfold Instr.entryStore
  have h0 : (asInt (.int .i64 0)).run Try.prog w = .ok 0 w := rfl
  simp only [Sem.run_bind, Go.MapKept.run_getObj_map hb, Result.andThen_ok, h0, Sem.run_pure]
  have hf : Array.findIdx? (fun e : MapEntry => ((e.born : Int) == 0)) #[{ key := k, val := z, born := 0 }] = some 0 := by simp [List.findIdx?_cons]
  rw [hf]
  exact Go.MapKept.run_setObj_map _ hb
theorem run_look0 {w : World} {r clock : Nat} {a : Mk} (hb : w.heap[r]? = some (.map #[] clock)) (ha : Key a) :
    (Instr.lookup 93 (.map (some r)) a.val false).run Try.prog w = .ok (.int .i64 0) w := by
  obtain ⟨i0, hi0, hz0, _, _⟩ := info_parts info3
  exact run_lookup 93 3 Try.underlying93 hi0 hz0 hb ha (ms := []) (by simp) rfl false
theorem run_look1 {w : World} {r clock : Nat} {a : Mk} (hb : w.heap[r]? = some (.map #[{ key := a.val, val := .int .i64 0, born := 0 }] clock)) (ha : Key a) :
    (Instr.lookup 93 (.map (some r)) a.val false).run Try.prog w = .ok (.int .i64 0) w := by
  obtain ⟨i0, hi0, hz0, _, _⟩ := info_parts info3
  rw [run_lookup 93 3 Try.underlying93 hi0 hz0 hb ha (ms := [a]) (by simpa using ha) rfl false]
  have hp : posMk a [a] = some 0 := by
    unfold posMk
    rw [List.findIdx?_cons]
    rcases cmp_keys a a ha.1 ha.1 with ⟨h, _⟩ | ⟨_, h⟩
    · rw [h]; rfl
    · exact absurd rfl h
  rw [hp]
  rfl
theorem run_lookP {w : World} {r clock : Nat} {a : Mk} (hb : w.heap[r]? = some (.map #[] clock)) (ha : a.keys = false) (hd : a.deep ≤ 16) :
    (Instr.lookup 93 (.map (some r)) a.val false).run Try.prog w = .halt (.panic (.iface 19 (.agg #[typeHandle Try.prog 103]))) w := by
  unfold Instr.lookup
  rw [Sem.run_bind, run_underlying Try.underlying93, Result.andThen_ok]
  simp only [Sem.run_bind, Go.MapKept.run_getObj_map hb, Result.andThen_ok, Sem.run_pure, check_marks a _ 10000 w (by omega : 2 * a.deep + 2 ≤ 10000), checkRes, ha]
  rfl
theorem run_entryP {w : World} {r clock : Nat} {a : Mk} (hb : w.heap[r]? = some (.map #[] clock)) (ha : a.keys = false) (hd : a.deep ≤ 16) :
    (Instr.mapEntry 93 (.map (some r)) a.val).run Try.prog w = .halt (.panic (.iface 10 (strVal "hash of unhashable type brand.row"))) w := by
  unfold Instr.mapEntry
  rw [Sem.run_bind, run_underlying Try.underlying93, Result.andThen_ok]
  simp only [Sem.run_bind, Go.MapKept.run_getObj_map hb, Result.andThen_ok, Sem.run_pure, check_marks a _ 10000 w (by omega : 2 * a.deep + 2 ≤ 10000), checkRes, ha]
  rfl
theorem keyf_ok (a : Mk) (ha : Key a) (ga : Nat) (w : World) (h1 : w.heap[ga]? = some (.cells #[a.val] 45 (0, 0))) :
    Calls Try.prog 51 #[.pointer (some ⟨ga, 0, none⟩)] w fun e w' => e = .returned (.tuple #[]) ∧ Ex (fun _ => False) w w' := by
  have hl1 := lt_of_blk h1
  have c1 := (blk_cell h1 0).trans rfl
  have hM : (w.alloc (.map #[] 0)).drew.heap[w.heap.size]? = some (.map #[] 0) := blk_drew (blk_new1 w _)
  obtain ⟨i0, hi0, hz0, _, _⟩ := info_parts info3
  have hlk := run_look0 hM ha
  have hen := run_entry0 93 3 Try.underlying93 hi0 hz0 hM ha
  have hlk2 := run_look1 (setB_blk (o' := .map #[{ key := a.val, val := .int .i64 0, born := 0 }] 1) hM) ha
  have hst := run_estore0 93 (.int .i64 1) (setB_blk (o' := .map #[{ key := a.val, val := .int .i64 0, born := 0 }] 1) hM)
  have hcl : ∀ i, (setB (w.alloc (.map #[] 0)).drew w.heap.size (.map #[{ key := a.val, val := .int .i64 0, born := 0 }] 1)).cell? ⟨ga, i, none⟩ = w.cell? ⟨ga, i, none⟩ := fun i =>
    (ex_setB (((Ex.refl (fun _ => False) w).alloc _).drew) (.inr (Nat.le_refl _)) _).cell hl1 (fun h => h) i
  have hmk := make_map
  obtain ⟨t1, u1, hu1⟩ := a.val_iface
  rw [hu1] at c1 hlk hlk2 hen hst hcl
  have HX := Aside0.mk (ex_setB (ex_setB (((Ex.refl (fun _ => False) w).alloc (.map #[] 0)).drew) (.inr (Nat.le_refl _)) (.map #[{ key := a.val, val := .int .i64 0, born := 0 }] 1)) (.inr (Nat.le_refl _)) (.map #[{ key := a.val, val := .int .i64 1, born := 0 }] 1))
  rw [hu1] at HX
  clear ha hu1 hi0 hz0 h1 hM
  generalize hW2 : setB (w.alloc (.map #[] 0)).drew w.heap.size (.map #[{ key := .iface t1 u1, val := .int .i64 0, born := 0 }] 1) = W2 at hlk2 hen hst hcl HX
  generalize hW3 : setB W2 w.heap.size (.map #[{ key := .iface t1 u1, val := .int .i64 1, born := 0 }] 1) = W3 at hst HX
  clear hW2 hW3
  go_enter Try.func51, Try.ntmps51
  go_wp2
  go_region
  all_goals
    refine bodyPost_end (results_none rfl _ _ _) rfl ?_
    exact ⟨rfl, HX.out⟩
theorem keyf_no (a : Mk) (ha : a.keys = false) (hd : a.deep ≤ 16) (ga : Nat) (w : World) (h1 : w.heap[ga]? = some (.cells #[a.val] 45 (0, 0))) :
    Calls Try.prog 51 #[.pointer (some ⟨ga, 0, none⟩)] w fun e w' => (e = .panicked [{ v := .iface 19 (.agg #[typeHandle Try.prog 103]), recovered := false }] ∨ e = .panicked [{ v := .iface 10 (strVal "hash of unhashable type brand.row"), recovered := false }]) ∧ Ex (fun _ => False) w w' := by
  have hl1 := lt_of_blk h1
  have c1 := (blk_cell h1 0).trans rfl
  have hM : (w.alloc (.map #[] 0)).drew.heap[w.heap.size]? = some (.map #[] 0) := blk_drew (blk_new1 w _)
  have hlk := run_lookP hM ha hd
  have hen := run_entryP hM ha hd
  have hmk := make_map
  obtain ⟨t1, u1, hu1⟩ := a.val_iface
  rw [hu1] at c1 hlk hen
  have HX := Aside0.mk (((Ex.refl (fun _ => False) w).alloc (.map #[] 0)).drew)
  clear ha hu1 h1 hM
  generalize Value.agg #[typeHandle Try.prog 103] = hv at hlk ⊢
  go_enter Try.func51, Try.ntmps51
  go_wp2
  refine start_ (n := 7) (S := Any) (ds := [0, 1, 2, 3, 4, 5, 6]) #[false, false, false, false, false, false, false] (by kernel_rfl) (by rfl) (by rfl) trivial (fun _ => ?_)
  refine pure_ (i := 0) (N := some 3) (v := .map (some w.heap.size)) (a' := _) #[true, false, false, false, false, false, false] rfl rfl (by kernel_rfl) (fun _ _ _ h => h) (Or.inl ⟨by rfl, ?_⟩) rfl ?_
  · intro w'
    rfl
  refine stepV (i := 1) (N := some 4) #[true, true, false, false, false, false, false] rfl (by kernel_rfl) (by decide) rfl (by rfl) (.iface t1 u1) (w1 := (w.alloc (.map #[] 0)).drew) (by go_simp) rfl ?_
  refine stepPP (i := 2) (j := 4) rfl rfl (by kernel_rfl) (by decide) (by decide) (by rfl) (by rfl) _ _ (exec_halt (s := Instr.lookup 93 (.map (some w.heap.size)) (.iface t1 u1) false) rfl hlk) (exec_halt (s := Instr.mapEntry 93 (.map (some w.heap.size)) (.iface t1 u1)) rfl hen) ?_ ?_
  · exact ⟨rfl, .inl rfl, HX.out⟩
  · exact ⟨rfl, .inr rfl, HX.out⟩
set_option maxHeartbeats 400000 in
theorem key_yes (a : Mk) (ha : Key a) (w : World) :
    Calls Try.prog 36 #[a.val] w fun e w' => e = .returned (.bool true) ∧ Ex (fun _ => False) w w' := by
  have hmf : ∀ (fn : Fn) (first cap : Array Value) (w : World), (Instr.makeFunc fn first cap).run Try.prog w = .ok (.func fn first cap) w := fun _ _ _ _ => rfl
  have HA := Aside0.mk ha
  obtain ⟨t1, u1, hu1⟩ := a.val_iface
  rw [hu1]
  have HU := Aside0.mk hu1
  clear ha hu1
  go_enter Try.func36, Try.ntmps36
  go_wp2_with fail
  refine Calls.mono (met_ok 51 _ (fun _ => False) (fun _ => True) _ (fun _ h => h.elim) (fun w => enters_ Try.func51 (by kernel_rfl) rfl _ w) ?_) ?_
  · refine (keyf_ok a HA.out w.heap.size _ (by rw [HU.out]; exact blk_alloc (blk_new1 _ _) _)).mono ?_
    rintro e w' ⟨rfl, hx⟩
    exact ⟨rfl, hx, trivial⟩
  rintro e w3 ⟨rfl, w4, _, hx, rfl⟩
  have HX := Aside0.mk ((((((Ex.refl (fun _ => False) w).alloc _).alloc _).trans hx (fun _ h => h.elim))).set (p := ⟨w.heap.size + 1, 0, none⟩) (.inr (Nat.le_succ _)) (.bool false))
  clear hx
  go_wp2
  go_ret
  exact ⟨rfl, HX.out⟩
set_option maxHeartbeats 400000 in
theorem key_no (a : Mk) (ha : a.keys = false) (hd : a.deep ≤ 16) (w : World) :
    Calls Try.prog 36 #[a.val] w fun e w' => e = .returned (.bool false) ∧ Ex (fun _ => False) w w' := by
  have hmf : ∀ (fn : Fn) (first cap : Array Value) (w : World), (Instr.makeFunc fn first cap).run Try.prog w = .ok (.func fn first cap) w := fun _ _ _ _ => rfl
  have HA := Aside0.mk (And.intro ha hd)
  obtain ⟨t1, u1, hu1⟩ := a.val_iface
  rw [hu1]
  have HU := Aside0.mk hu1
  clear ha hu1 hd
  go_enter Try.func36, Try.ntmps36
  go_wp2_with fail
  refine Calls.mono (met_panic 51 _ (fun _ => False) (fun _ => True) _ (fun _ h => h.elim) (fun w => enters_ Try.func51 (by kernel_rfl) rfl _ w) ?_) ?_
  · refine (keyf_no a HA.out.1 HA.out.2 w.heap.size _ (by rw [HU.out]; exact blk_alloc (blk_new1 _ _) _)).mono ?_
    rintro e w' ⟨h, hx⟩
    refine ⟨?_, hx, trivial⟩
    rcases h with rfl | rfl
    · exact ⟨19, _, .inr rfl, rfl⟩
    · exact ⟨10, _, .inl rfl, rfl⟩
  rintro e w3 ⟨rfl, w4, _, hx, rfl⟩
  have HX := Aside0.mk ((((((Ex.refl (fun _ => False) w).alloc _).alloc _).trans hx (fun _ h => h.elim))).set (p := ⟨w.heap.size + 1, 0, none⟩) (.inr (Nat.le_succ _)) (.bool true))
  clear hx
  go_wp2
  go_ret
  exact ⟨rfl, HX.out⟩
theorem key_calls (a : Mk) (hd : a.deep ≤ 16) (w : World) : Calls Try.prog 36 #[a.val] w fun e w' => e = .returned (.bool a.keys) ∧ Ex (fun _ => False) w w' := by
  cases h : a.keys with
  | true => exact key_yes a ⟨h, hd⟩ w
  | false => exact key_no a h hd w
end Go.Proofs.Ythkemcekcfccpaa.PBrandCompares
end
section
namespace Go.Proofs.Ythkemcekcfccpaa.PBrandCompares
open Go.RowKit Go.Proofs.YthkemcekcfccpaaW.PrintWords Go.Proofs.YthkemcekcfccpaaW.PrintLast Go.Proofs.YthkemcekcfccpaaW.PrintMore
open Go.Proofs.Ythkemcekcfccpaa.GBrandCompares
set_option linter.unusedVariables false
set_option linter.unusedSimpArgs false
theorem map_some (mb : Nat) (w : World) : (binOp .eql 63 (.map (some mb)) (.map none)).run Try.prog w = .ok (.bool false) w := by
  have h : ∀ d : Nat, (Op.equalIn (d + 1) 63 (.map (some mb)) (.map none)).run Try.prog w = .ok false w := fun d => by simp [Op.equalIn, run_underlying Try.underlying63]
  simp only [binOp, Op.equal, Sem.run_bind]
  rw [show Op.maxDepth = 9999 + 1 from rfl, h]
  rfl
theorem none_no (g mb : Nat) (b c : Value) (w : World) (h : w.heap[g]? = some (.cells #[.map (some mb), b, c] 66 (0, 0))) : Calls Try.prog 37 #[.pointer (some ⟨g, 0, none⟩)] w fun e w' => e = .returned (.bool false) ∧ w' = w := by
  have hl := lt_of_blk h
  have c0 := (blk_cell h 0).trans rfl
  clear h
  have hq := map_some mb
  go_enter Try.func37, Try.ntmps37
  go_wp2
  go_ret
  exact ⟨rfl, rfl⟩
theorem new_calls (w : World) : Calls Try.prog 14 #[] w fun e w' => e = .returned (.pointer (some ⟨w.heap.size + 2, 0, none⟩)) ∧
    w' = ((w.alloc (.map #[] 0)).alloc (.map #[] 0)).alloc (.cells #[.map (some w.heap.size), .map (some (w.heap.size + 1)), .int .i64 0] 66) := by
  have hmk := make_map
  go_enter Try.func14, Try.ntmps14
  go_wp2
  go_ret
  exact ⟨rfl, rfl⟩
set_option maxHeartbeats 400000 in
theorem find_arg (x : S27) (A : Option Addr) (c : Nat) (g mb : Nat) (b d : Value) (w : World) (ok : Nat → Prop) (h : w.heap[g]? = some (.cells #[.map (some mb), b, d] 66 (0, 0))) (hF : Kd.F k27 w ok A x.f3.length x.f3) (hm : mayV x = false) :
    Calls Try.prog 39 #[.pointer (some ⟨g, 0, none⟩), .agg #[.int .u8 x.f0, .int .i64 x.f1, .string x.f2, .slice A x.f3.length c, .int .i64 x.f4]] w fun e w' => e = .returned (.tuple #[.nilIface, .int .i64 2]) ∧ Ex (fun _ => False) w w' := by
  have HG := Aside0.mk h
  have HF := Aside0.mk hF
  have HM := Aside0.mk hm
  clear h hF hm
  go_enter Try.func39, Try.ntmps39
  go_wp2_with fail
  refine (none_no g mb b d _ (blk_alloc HG.out _)).mono ?_
  rintro e w1 ⟨rfl, rfl⟩
  go_wp2_with fail
  refine (of_no x A c _ ok (Kd.F_alloc HF.out _) HM.out).mono ?_
  rintro e w1 ⟨rfl, hx1⟩
  have HX1 := Aside0.mk (((Ex.refl (fun _ => False) w).alloc _).trans hx1 (fun _ h => h.elim))
  clear hx1
  go_wp2
  go_ret2
  exact ⟨rfl, HX1.out⟩
set_option maxHeartbeats 400000 in
theorem find_key' (x : S27) (A : Option Addr) (c : Nat) (g mb : Nat) (b d : Value) (w : World) (ok : Nat → Prop) (h : w.heap[g]? = some (.cells #[.map (some mb), b, d] 66 (0, 0))) (hF : Kd.F k27 w ok A x.f3.length x.f3) (hm : mayV x = true) :
    Calls Try.prog 39 #[.pointer (some ⟨g, 0, none⟩), .agg #[.int .u8 x.f0, .int .i64 x.f1, .string x.f2, .slice A x.f3.length c, .int .i64 x.f4]] w fun e w' => ∃ m : Mk, MarkOf x m ∧ m.deep ≤ 16 ∧ Ex (fun _ => False) w w' ∧
      e = .returned (.tuple (if m.keys then #[m.val, .int .i64 0] else #[.nilIface, .int .i64 40])) := by
  have HG := Aside0.mk h
  have HF := Aside0.mk hF
  have HM := Aside0.mk hm
  clear h hF hm
  go_enter Try.func39, Try.ntmps39
  go_wp2_with fail
  refine (none_no g mb b d _ (blk_alloc HG.out _)).mono ?_
  rintro e w1 ⟨rfl, rfl⟩
  go_wp2_with fail
  refine (of_yes x A c _ ok (Kd.F_alloc HF.out _) HM.out).mono ?_
  rintro e w1 ⟨m, h1, h2, rfl, hx1⟩
  have HX1 := Aside0.mk (((Ex.refl (fun _ => False) w).alloc _).trans hx1 (fun _ h => h.elim))
  have HH := Aside0.mk (And.intro h1 h2)
  obtain ⟨t1, u1, hu1⟩ := m.val_iface
  have HK := Aside0.mk (key_calls m h2)
  rw [hu1]
  rw [hu1] at HK
  have HU := Aside0.mk hu1
  clear hx1 h1 h2 hu1
  go_wp2_with fail
  refine (HK.out _).mono ?_
  rintro e w2 ⟨rfl, hx2⟩
  have HX2 := Aside0.mk (HX1.out.trans hx2 (fun _ h => h.elim))
  clear hx2
  cases hk : m.keys with
  | true =>
    have HKK := Aside0.mk hk
    clear hk
    go_wp2
    go_ret2
    exact ⟨m, HH.out.1, HH.out.2, HX2.out, by rw [HKK.out, HU.out]; rfl⟩
  | false =>
    have HKK := Aside0.mk hk
    clear hk
    go_wp2
    go_ret2
    exact ⟨m, HH.out.1, HH.out.2, HX2.out, by rw [HKK.out]; rfl⟩
end Go.Proofs.Ythkemcekcfccpaa.PBrandCompares
end
section
namespace Go.Proofs.Ythkemcekcfccpaa.PBrandCompares
open Go.RowKit Go.Proofs.YthkemcekcfccpaaW.PrintWords Go.Proofs.YthkemcekcfccpaaW.PrintLast Go.Proofs.YthkemcekcfccpaaW.PrintMore
attribute [local go_sem] max2_int min2_int max_two min_two max_three min_three max_four min_four   -- for this text's walks alone
set_option linter.unusedVariables false
set_option linter.unusedSimpArgs false
mutual
def value_own.l0 : Nat → List (S27) → List (S27) → Int → Int → Int → Int → ByteArray → List (S27) → Int → Option (Int × Int × ByteArray × (List (S27)) × Int)
  | 0, _, _, _, _, _, _, _, _, _ => none
  | k + 1, x3, x17, x18, x19, x114000, x114001, x114002, x114003, x114004 => if x19 < x18 then (if 0 ≤ x19 then (if x19 < (x17.length : Int) then ((value_own.f k ((rd_T27 x17 x19).f0) ((rd_T27 x17 x19).f1) ((rd_T27 x17 x19).f2) ((rd_T27 x17 x19).f3) ((rd_T27 x17 x19).f4)).bind fun bt120 => (if x19 < (x3.length : Int) then (value_own.l0 k (x3.set (x19 : Int).toNat (⟨bt120.1, bt120.2.1, bt120.2.2.1, bt120.2.2.2.1, bt120.2.2.2.2⟩ : S27)) x17 x18 (wrap64 (x19 + 1)) x114000 x114001 x114002 x114003 x114004) else (none))) else (none)) else (none)) else (some (x114000, x114001, x114002, x3, x114004))
def value_own.f : Nat → Int → Int → ByteArray → List (S27) → Int → Option (Int × Int × ByteArray × (List (S27)) × Int)
  | 0, _, _, _, _, _ => none
  | k + 1, a0_0, a0_1, a0_2, l0_3, a0_4 => if (l0_3.length : Int) = 0 then (some (a0_0, a0_1, a0_2, ([] : List (S27)), a0_4)) else (if 0 ≤ (l0_3.length : Int) then (if ((l0_3.length : Int) : Int).toNat ≤ 4398046511104 then (value_own.l0 k (List.replicate ((l0_3.length : Int) : Int).toNat z27) l0_3 (l0_3.length : Int) 0 a0_0 a0_1 a0_2 l0_3 a0_4) else (none)) else (none))
end
theorem value_own.mono_l : ∀ k, (∀ y0 y1 y2 y3 y4, LeO (value_own.f k y0 y1 y2 y3 y4) (value_own.f (k + 1) y0 y1 y2 y3 y4)) ∧ (∀ y0 y1 y2 y3 y4 y5 y6 y7 y8, LeO (value_own.l0 k y0 y1 y2 y3 y4 y5 y6 y7 y8) (value_own.l0 (k + 1) y0 y1 y2 y3 y4 y5 y6 y7 y8))
  | 0 => ⟨fun _ _ _ _ _ r h => by simp [value_own.f] at h, fun _ _ _ _ _ _ _ _ _ r h => by simp [value_own.l0] at h⟩
  | k + 1 => by
    obtain ⟨ih0, ih1⟩ := value_own.mono_l k
    refine ⟨?_, ?_⟩
    · intro y0 y1 y2 y3 y4
      unfold value_own.f
      repeat' first
      | (with_reducible exact ih0 _ _ _ _ _)
      | (with_reducible exact ih1 _ _ _ _ _ _ _ _ _)
      | (with_reducible exact LeO.refl _)
      | (with_reducible exact LeO.none _)
      | (with_reducible refine LeO.ite ?_ ?_)
      | (with_reducible refine LeO.bind ?_ (fun _ => ?_))
      | exact ih0 _ _ _ _ _
      | exact ih1 _ _ _ _ _ _ _ _ _
      | exact LeO.none _
      | refine LeO.ite ?_ ?_
      | refine LeO.bind ?_ (fun _ => ?_)
    · intro y0 y1 y2 y3 y4 y5 y6 y7 y8
      unfold value_own.l0
      repeat' first
      | (with_reducible exact ih0 _ _ _ _ _)
      | (with_reducible exact ih1 _ _ _ _ _ _ _ _ _)
      | (with_reducible exact LeO.refl _)
      | (with_reducible exact LeO.none _)
      | (with_reducible refine LeO.ite ?_ ?_)
      | (with_reducible refine LeO.bind ?_ (fun _ => ?_))
      | exact ih0 _ _ _ _ _
      | exact ih1 _ _ _ _ _ _ _ _ _
      | exact LeO.none _
      | refine LeO.ite ?_ ?_
      | refine LeO.bind ?_ (fun _ => ?_)
theorem value_own.mono : ∀ a0 a1 a2 a3 a4 k, LeO (value_own.f k a0 a1 a2 a3 a4) (value_own.f (k + 1) a0 a1 a2 a3 a4) := by
  intro a0 a1 a2 a3 a4 k
  obtain ⟨ih0, ih1⟩ := value_own.mono_l k
  exact ih0 a0 a1 a2 a3 a4
set_option maxHeartbeats 8000000 in
set_option maxRecDepth 100000 in
theorem value_own.calls (k : Nat) : ∀ (a0_0 : Int) (a0_1 : Int) (a0_2 : ByteArray) (P0_3_ : Nat → Prop) (A0_3 : Option Addr) (c0_3 : Nat) (l0_3 : List (S27)) (a0_4 : Int) (r1 : Int) (r2 : Int) (r3 : ByteArray) (r4 : List (S27)) (r5 : Int) (w : World) (hs0_3 : Kd.V k27 27 w w.heap.size (fun k_ => P0_3_ k_) (.slice A0_3 l0_3.length c0_3) l0_3) (h : value_own.f k a0_0 a0_1 a0_2 l0_3 a0_4 = some (r1, r2, r3, r4, r5)),
    Calls Try.prog 56 #[.agg #[.int .u8 a0_0, .int .i64 a0_1, .string a0_2, .slice A0_3 l0_3.length c0_3, .int .i64 a0_4]] w fun e w' => ∃ v3_ : Value, e = .returned (.agg #[.int .u8 r1, .int .i64 r2, .string r3, v3_, .int .i64 r5]) ∧ Kd.R k27 27 w' w.heap.size (fun k_ => (w.heap.size ≤ k_)) v3_ r4 ∧ Below w.heap.size w w' := by
  induction k using Nat.strongRecOn with
  | _ k ih =>
  intro a0_0 a0_1 a0_2 P0_3_ A0_3 c0_3 l0_3 a0_4 r1 r2 r3 r4 r5 w hs0_3 h
  cases k with
  | zero => exact absurd h (by simp [value_own.f])
  | succ k =>
  simp only [value_own.f] at h
  have hu27 := Try.underlying27
  have HO0_3 := Aside0.mk (show Kd.V k27 27 w w.heap.size (fun k_ => (P0_3_ k_ ∨ w.heap.size ≤ k_)) (.slice A0_3 l0_3.length c0_3) l0_3 from Kd.V_mono hs0_3 (fun k_ hk => .inl hk))
  have HB := Aside0.mk (Below.refl w.heap.size w)
  have H : (if (l0_3.length : Int) = 0 then (some (a0_0, a0_1, a0_2, ([] : List (S27)), a0_4)) else (if 0 ≤ (l0_3.length : Int) then (if ((l0_3.length : Int) : Int).toNat ≤ 4398046511104 then (value_own.l0 k (List.replicate ((l0_3.length : Int) : Int).toNat z27) l0_3 (l0_3.length : Int) 0 a0_0 a0_1 a0_2 l0_3 a0_4) else (none)) else (none))) = some (r1, r2, r3, r4, r5) := h
  clear h
  by_cases c2 : (l0_3.length : Int) = 0
  · rw [if_pos c2] at H
    have c2b0 : ((l0_3.length : Int) == 0) = true := beq_iff_eq.mpr c2
    have c2b1 : ((l0_3.length : Int) != 0) = false := bne_eq_false_iff_eq.mpr c2
    clear c2
    simp only [Option.some.injEq, Prod.mk.injEq] at H
    obtain ⟨rfl, rfl, rfl, rfl, rfl⟩ := H
    go_enter Try.func56, Try.ntmps56
    go_wp2_with (first | ((with_reducible refine gate_dst (N := 1) rfl ?_); refine box_event ?hg (N := 1) ?hd (cs := #[.int .u8 a0_0, .int .i64 a0_1, .string a0_2, .slice A0_3 l0_3.length c0_3, .int .i64 a0_4]) (t := 27) ?hr ?_; (case hd => rfl); (case hg => rfl); (case hr => first | (go_simp; done) | (go_simp; rfl)); intro gb113 hg w3 hbox hb; have n0_ := Aside0.mk (Kd.V_below (Kd.V_elderB (by (with_reducible repeat (first | apply Kd.V_alloc | apply Kd.V_drewN | apply Kd.V_drew)); exact HO0_3.out) gb113 (Nat.le_of_eq hg.symm)) hb); have n1_ := Aside0.mk (below_step (by repeat (first | (with_reducible first | exact HB.out | apply below_alloc | apply pw_below_drewN | apply below_drew1) | exact HB.out)) hb); have n2_ := Aside0.mk (hbox); have n3_ := Aside0.mk ((by rw [hg]; exact (below_size (by repeat (first | (with_reducible first | exact HB.out | apply below_alloc | apply pw_below_drewN | apply below_drew1) | exact HB.out))) : w.heap.size ≤ gb113)); have n4_ := Aside0.mk ((by rw [hg]; exact (below_size (by repeat (first | (with_reducible first | exact HB.out | apply below_alloc | apply pw_below_drewN | apply below_drew1) | exact HB.out))) : w.heap.size ≤ gb113)); clear HO0_3; clear HB; have HO0_3 := n0_; have HB := n1_; have BK113 := n2_; have GW113 := n3_; have GE113 := n4_; clear n0_ n1_ n2_ n3_ n4_; clear hb hbox hg) | ((with_reducible refine gate_dst (N := 2) rfl ?_); refine box_event ?hg (N := 2) ?hd (cs := #[.int .u8 0, .int .i64 0, .string (⟨#[]⟩ : ByteArray), .slice none 0 0, .int .i64 0]) (t := 27) ?hr ?_; (case hd => rfl); (case hg => rfl); (case hr => first | (go_simp; done) | (go_simp; rfl)); intro gb114 hg w4 hbox hb; have n0_ := Aside0.mk (Kd.V_below (Kd.V_elderB (by (with_reducible repeat (first | apply Kd.V_alloc | apply Kd.V_drewN | apply Kd.V_drew)); exact HO0_3.out) gb114 (Nat.le_of_eq hg.symm)) hb); have n1_ := Aside0.mk (blk_below (g := gb113) (o := .cells #[.int .u8 a0_0, .int .i64 a0_1, .string a0_2, .slice A0_3 l0_3.length c0_3, .int .i64 a0_4] 27 (0, 0)) (by (with_reducible repeat (first | refine blk_drewN ?_ _ | refine blk_drew ?_ | refine blk_alloc ?_ _)); exact BK113.out) hb); have n2_ := Aside0.mk (below_step (by repeat (first | (with_reducible first | exact HB.out | apply below_alloc | apply pw_below_drewN | apply below_drew1 | refine below_set ?_ GE113.out) | exact HB.out)) hb); have n3_ := Aside0.mk (hbox); have n4_ := Aside0.mk ((by rw [hg]; exact (below_size (by repeat (first | (with_reducible first | exact HB.out | apply below_alloc | apply pw_below_drewN | apply below_drew1 | refine below_set ?_ GE113.out) | exact HB.out))) : w.heap.size ≤ gb114)); have n5_ := Aside0.mk ((by rw [hg]; exact (below_size (by repeat (first | (with_reducible first | exact HB.out | apply below_alloc | apply pw_below_drewN | apply below_drew1 | refine below_set ?_ GE113.out) | exact HB.out))) : w.heap.size ≤ gb114)); have n6_ := Aside0.mk ((by rw [hg]; exact Nat.ne_of_lt (blk_lt (g := gb113) (o := .cells #[.int .u8 a0_0, .int .i64 a0_1, .string a0_2, .slice A0_3 l0_3.length c0_3, .int .i64 a0_4] 27 (0, 0)) (by (with_reducible repeat (first | refine blk_drewN ?_ _ | refine blk_drew ?_ | refine blk_alloc ?_ _)); exact BK113.out)) : gb113 ≠ gb114)); have n7_ := Aside0.mk ((by rw [hg]; exact Nat.ne_of_gt (blk_lt (g := gb113) (o := .cells #[.int .u8 a0_0, .int .i64 a0_1, .string a0_2, .slice A0_3 l0_3.length c0_3, .int .i64 a0_4] 27 (0, 0)) (by (with_reducible repeat (first | refine blk_drewN ?_ _ | refine blk_drew ?_ | refine blk_alloc ?_ _)); exact BK113.out)) : gb114 ≠ gb113)); clear HO0_3; clear BK113; clear HB; have HO0_3 := n0_; have BK113 := n1_; have HB := n2_; have BK114 := n3_; have GW114 := n4_; have GE114 := n5_; have NB113_114 := n6_; have NB114_113 := n7_; clear n0_ n1_ n2_ n3_ n4_ n5_ n6_ n7_; clear hb hbox hg; have hnb5 := NB113_114.out; have hnc5 := NB114_113.out; have hcz6_0 : w4.cell? ⟨gb113, 0, none⟩ = some (.int .u8 a0_0) := (blk_cell BK113.out 0).trans rfl; have hcz6_1 : w4.cell? ⟨gb113, 1, none⟩ = some (.int .i64 a0_1) := (blk_cell BK113.out 1).trans rfl; have hcz6_2 : w4.cell? ⟨gb113, 2, none⟩ = some (.string a0_2) := (blk_cell BK113.out 2).trans rfl; have hcz6_3 : w4.cell? ⟨gb113, 3, none⟩ = some (.slice A0_3 l0_3.length c0_3) := (blk_cell BK113.out 3).trans rfl; have hcz6_4 : w4.cell? ⟨gb113, 4, none⟩ = some (.int .i64 a0_4) := (blk_cell BK113.out 4).trans rfl; have hfz6_0 := blk_frozen BK113.out 0; have hfz6_1 := blk_frozen BK113.out 1; have hfz6_2 := blk_frozen BK113.out 2; have hfz6_3 := blk_frozen BK113.out 3; have hfz6_4 := blk_frozen BK113.out 4; have hcz7_0 : w4.cell? ⟨gb114, 0, none⟩ = some (.int .u8 0) := (blk_cell BK114.out 0).trans rfl; have hcz7_1 : w4.cell? ⟨gb114, 1, none⟩ = some (.int .i64 0) := (blk_cell BK114.out 1).trans rfl; have hcz7_2 : w4.cell? ⟨gb114, 2, none⟩ = some (.string (⟨#[]⟩ : ByteArray)) := (blk_cell BK114.out 2).trans rfl; have hcz7_3 : w4.cell? ⟨gb114, 3, none⟩ = some (.slice none 0 0) := (blk_cell BK114.out 3).trans rfl; have hcz7_4 : w4.cell? ⟨gb114, 4, none⟩ = some (.int .i64 0) := (blk_cell BK114.out 4).trans rfl; have hfz7_0 := blk_frozen BK114.out 0; have hfz7_1 := blk_frozen BK114.out 1; have hfz7_2 := blk_frozen BK114.out 2; have hfz7_3 := blk_frozen BK114.out 3; have hfz7_4 := blk_frozen BK114.out 4))
    refine bodyPost_ret (results_cell_row rfl _ _ gb114 27 #[.int .u8 a0_0, .int .i64 a0_1, .string a0_2, .slice none 0 0, .int .i64 a0_4] (0, 0) _ rfl (by (with_reducible repeat (first | refine blk_drewN ?_ _ | refine blk_drew ?_ | refine blk_alloc ?_ _)); refine blk_put (cs := #[.int .u8 a0_0, .int .i64 a0_1, .string a0_2, .slice none 0 0, .int .i64 0]) ?_ 4 _ rfl; (with_reducible repeat (first | refine blk_drewN ?_ _ | refine blk_drew ?_ | refine blk_alloc ?_ _)); refine blk_put (cs := #[.int .u8 a0_0, .int .i64 a0_1, .string a0_2, .slice none 0 0, .int .i64 0]) ?_ 3 _ rfl; (with_reducible repeat (first | refine blk_drewN ?_ _ | refine blk_drew ?_ | refine blk_alloc ?_ _)); refine blk_put (cs := #[.int .u8 a0_0, .int .i64 a0_1, .string (⟨#[]⟩ : ByteArray), .slice none 0 0, .int .i64 0]) ?_ 2 _ rfl; (with_reducible repeat (first | refine blk_drewN ?_ _ | refine blk_drew ?_ | refine blk_alloc ?_ _)); refine blk_put (cs := #[.int .u8 a0_0, .int .i64 0, .string (⟨#[]⟩ : ByteArray), .slice none 0 0, .int .i64 0]) ?_ 1 _ rfl; (with_reducible repeat (first | refine blk_drewN ?_ _ | refine blk_drew ?_ | refine blk_alloc ?_ _)); refine blk_put (cs := #[.int .u8 0, .int .i64 0, .string (⟨#[]⟩ : ByteArray), .slice none 0 0, .int .i64 0]) ?_ 0 _ rfl; (with_reducible repeat (first | refine blk_drewN ?_ _ | refine blk_drew ?_ | refine blk_alloc ?_ _)); refine blk_far ?_ NB114_113.out _; (with_reducible repeat (first | refine blk_drewN ?_ _ | refine blk_drew ?_ | refine blk_alloc ?_ _)); exact BK114.out) Try.underlying27 rfl (by kernel_rfl)) rfl ?_
    exact ⟨_, by first | rfl | (simp [errW_none, errW_some] <;> rfl) | (simp [*, errW_none, errW_some] <;> rfl), by first | exact Kd.R_nil _ _ _ _ _ | exact Kd.N_nil _ _ _ _ _ | exact Kd.V_nil _ _ _ _ _ | exact Kd.Q_nil _ _ _ _ _ | exact Kd.S_nil _ _ _ _ _, by repeat (first | (with_reducible first | exact HB.out | apply below_alloc | apply pw_below_drewN | apply below_drew1 | refine below_set ?_ GE113.out | refine below_set ?_ GE114.out) | exact HB.out)⟩
  · rw [if_neg c2] at H
    have c2b0 : ((l0_3.length : Int) == 0) = false := beq_eq_false_iff_ne.mpr c2
    have c2b1 : ((l0_3.length : Int) != 0) = true := bne_iff_ne.mpr c2
    have c2b2 : ¬ (l0_3 = []) := fun h_ => c2 (by rw [h_]; rfl)
    by_cases c8 : 0 ≤ (l0_3.length : Int)
    · rw [if_pos c8] at H
      have c8b0 := eq_true c8
      have c8b1 : decide (0 ≤ (l0_3.length : Int)) = true := decide_eq_true c8
      clear c8
      by_cases c9 : ((l0_3.length : Int) : Int).toNat ≤ 4398046511104
      · rw [if_pos c9] at H
        have c9b0 := eq_true c9
        have c9b1 : decide (((l0_3.length : Int) : Int).toNat ≤ 4398046511104) = true := decide_eq_true c9
        clear c9
        obtain ⟨y115, hy115⟩ : ∃ y_ : List (S27), y_ = (List.replicate ((l0_3.length : Int) : Int).toNat z27) := ⟨_, rfl⟩
        replace H : (value_own.l0 k y115 l0_3 (l0_3.length : Int) 0 a0_0 a0_1 a0_2 l0_3 a0_4) = some (r1, r2, r3, r4, r5) := by first | (rw [hy115]; with_reducible exact H) | (have H2_ := (Option.bind_some _ _).symm.trans H; rw [hy115]; with_reducible exact H2_) | (have H2_ := (Option.bind_some _ _).symm.trans H; with_reducible exact H2_) | with_reducible exact H | (rw [hy115]; exact H) | exact H
        have Ny115 := Aside0.mk hy115
        clear hy115
        have H' := Aside0.mk H
        clear H
        go_enter Try.func56, Try.ntmps56
        go_wp2_with (first | ((with_reducible refine gate_dst (N := 1) rfl ?_); refine box_event ?hg (N := 1) ?hd (cs := #[.int .u8 a0_0, .int .i64 a0_1, .string a0_2, .slice A0_3 l0_3.length c0_3, .int .i64 a0_4]) (t := 27) ?hr ?_; (case hd => rfl); (case hg => rfl); (case hr => first | (go_simp; done) | (go_simp; rfl)); intro gb113 hg w10 hbox hb; have n0_ := Aside0.mk (Kd.V_below (Kd.V_elderB (by (with_reducible repeat (first | apply Kd.V_alloc | apply Kd.V_drewN | apply Kd.V_drew)); exact HO0_3.out) gb113 (Nat.le_of_eq hg.symm)) hb); have n1_ := Aside0.mk (below_step (by repeat (first | (with_reducible first | exact HB.out | apply below_alloc | apply pw_below_drewN | apply below_drew1) | exact HB.out)) hb); have n2_ := Aside0.mk (hbox); have n3_ := Aside0.mk ((by rw [hg]; exact (below_size (by repeat (first | (with_reducible first | exact HB.out | apply below_alloc | apply pw_below_drewN | apply below_drew1) | exact HB.out))) : w.heap.size ≤ gb113)); have n4_ := Aside0.mk ((by rw [hg]; exact (below_size (by repeat (first | (with_reducible first | exact HB.out | apply below_alloc | apply pw_below_drewN | apply below_drew1) | exact HB.out))) : w.heap.size ≤ gb113)); clear HO0_3; clear HB; have HO0_3 := n0_; have HB := n1_; have BK113 := n2_; have GW113 := n3_; have GE113 := n4_; clear n0_ n1_ n2_ n3_ n4_; clear hb hbox hg) | ((with_reducible refine gate_dst (N := 2) rfl ?_); refine box_event ?hg (N := 2) ?hd (cs := #[.int .u8 0, .int .i64 0, .string (⟨#[]⟩ : ByteArray), .slice none 0 0, .int .i64 0]) (t := 27) ?hr ?_; (case hd => rfl); (case hg => rfl); (case hr => first | (go_simp; done) | (go_simp; rfl)); intro gb114 hg w11 hbox hb; have n0_ := Aside0.mk (Kd.V_below (Kd.V_elderB (by (with_reducible repeat (first | apply Kd.V_alloc | apply Kd.V_drewN | apply Kd.V_drew)); exact HO0_3.out) gb114 (Nat.le_of_eq hg.symm)) hb); have n1_ := Aside0.mk (blk_below (g := gb113) (o := .cells #[.int .u8 a0_0, .int .i64 a0_1, .string a0_2, .slice A0_3 l0_3.length c0_3, .int .i64 a0_4] 27 (0, 0)) (by (with_reducible repeat (first | refine blk_drewN ?_ _ | refine blk_drew ?_ | refine blk_alloc ?_ _)); exact BK113.out) hb); have n2_ := Aside0.mk (below_step (by repeat (first | (with_reducible first | exact HB.out | apply below_alloc | apply pw_below_drewN | apply below_drew1 | refine below_set ?_ GE113.out) | exact HB.out)) hb); have n3_ := Aside0.mk (hbox); have n4_ := Aside0.mk ((by rw [hg]; exact (below_size (by repeat (first | (with_reducible first | exact HB.out | apply below_alloc | apply pw_below_drewN | apply below_drew1 | refine below_set ?_ GE113.out) | exact HB.out))) : w.heap.size ≤ gb114)); have n5_ := Aside0.mk ((by rw [hg]; exact (below_size (by repeat (first | (with_reducible first | exact HB.out | apply below_alloc | apply pw_below_drewN | apply below_drew1 | refine below_set ?_ GE113.out) | exact HB.out))) : w.heap.size ≤ gb114)); have n6_ := Aside0.mk ((by rw [hg]; exact Nat.ne_of_lt (blk_lt (g := gb113) (o := .cells #[.int .u8 a0_0, .int .i64 a0_1, .string a0_2, .slice A0_3 l0_3.length c0_3, .int .i64 a0_4] 27 (0, 0)) (by (with_reducible repeat (first | refine blk_drewN ?_ _ | refine blk_drew ?_ | refine blk_alloc ?_ _)); exact BK113.out)) : gb113 ≠ gb114)); have n7_ := Aside0.mk ((by rw [hg]; exact Nat.ne_of_gt (blk_lt (g := gb113) (o := .cells #[.int .u8 a0_0, .int .i64 a0_1, .string a0_2, .slice A0_3 l0_3.length c0_3, .int .i64 a0_4] 27 (0, 0)) (by (with_reducible repeat (first | refine blk_drewN ?_ _ | refine blk_drew ?_ | refine blk_alloc ?_ _)); exact BK113.out)) : gb114 ≠ gb113)); clear HO0_3; clear BK113; clear HB; have HO0_3 := n0_; have BK113 := n1_; have HB := n2_; have BK114 := n3_; have GW114 := n4_; have GE114 := n5_; have NB113_114 := n6_; have NB114_113 := n7_; clear n0_ n1_ n2_ n3_ n4_ n5_ n6_ n7_; clear hb hbox hg; have hnb12 := NB113_114.out; have hnc12 := NB114_113.out; have hcz13_0 : w11.cell? ⟨gb113, 0, none⟩ = some (.int .u8 a0_0) := (blk_cell BK113.out 0).trans rfl; have hcz13_1 : w11.cell? ⟨gb113, 1, none⟩ = some (.int .i64 a0_1) := (blk_cell BK113.out 1).trans rfl; have hcz13_2 : w11.cell? ⟨gb113, 2, none⟩ = some (.string a0_2) := (blk_cell BK113.out 2).trans rfl; have hcz13_3 : w11.cell? ⟨gb113, 3, none⟩ = some (.slice A0_3 l0_3.length c0_3) := (blk_cell BK113.out 3).trans rfl; have hcz13_4 : w11.cell? ⟨gb113, 4, none⟩ = some (.int .i64 a0_4) := (blk_cell BK113.out 4).trans rfl; have hfz13_0 := blk_frozen BK113.out 0; have hfz13_1 := blk_frozen BK113.out 1; have hfz13_2 := blk_frozen BK113.out 2; have hfz13_3 := blk_frozen BK113.out 3; have hfz13_4 := blk_frozen BK113.out 4) | ((with_reducible refine gate_dst (N := 15) rfl ?_); refine Kd.R_make k27 _ 27 rfl (N := 15) rfl 24 _ _ rfl (l0_3.length : Int) rfl rfl Try.underlying24 (.agg #[(.int .u8 0), (.int .i64 0), (.string ⟨#[]⟩), (.slice none 0 0), (.int .i64 0)]) 64 info27 rfl (by decide) (by omega) z27 (ok := fun _ => True) (okp := fun _ => True) (k27_mkM _ _ _ z27 (Kd.R_nil _ _ _ _ _)) (fun _ hk => hk) trivial (of_decide_eq_true (by first | (with_reducible assumption) | assumption)) (Nat.le_trans (Nat.mul_le_mul_right _ (of_decide_eq_true (by first | (with_reducible assumption) | assumption) : (l0_3.length : Int).toNat ≤ 4398046511104)) (by omega)) (Below.refl _ _) (Nat.le_refl _) ?_; intro v116 w14 ho15 hb hg_ hnew_; clear hg_ hnew_; (first | rw [← Ny115.out] at ho15 | (simp only [Int.reduceToNat] at ho15; rw [← Ny115.out] at ho15)); have n0_ := Aside0.mk (Kd.V_elder' (by (with_reducible repeat (first | apply Kd.V_alloc | apply Kd.V_drewN | apply Kd.V_drew)); exact HO0_3.out) (Kd.R_base ho15) hb); have n1_ := Aside0.mk (Kd.R_lower (Kd.R_newB (Kd.R_newB (Kd.R_newM (M := fun k_ => (w.heap.size ≤ k_)) ho15 (below_size (by repeat (first | (with_reducible first | exact HB.out | apply below_alloc | apply pw_below_drewN | apply below_drew1 | refine below_set ?_ GE113.out | refine below_set ?_ GE114.out) | exact HB.out))) (fun k_ h_ => h_)) (g := gb113) (o := .cells #[.int .u8 a0_0, .int .i64 a0_1, .string a0_2, .slice A0_3 l0_3.length c0_3, .int .i64 a0_4] 27 (0, 0)) (by (with_reducible repeat (first | refine blk_drewN ?_ _ | refine blk_drew ?_ | refine blk_alloc ?_ _)); exact BK113.out)) (g := gb114) (o := .cells #[.int .u8 0, .int .i64 0, .string (⟨#[]⟩ : ByteArray), .slice none 0 0, .int .i64 0] 27 (0, 0)) (by (with_reducible repeat (first | refine blk_drewN ?_ _ | refine blk_drew ?_ | refine blk_alloc ?_ _)); exact BK114.out)) (below_size (by repeat (first | (with_reducible first | exact HB.out | apply below_alloc | apply pw_below_drewN | apply below_drew1 | refine below_set ?_ GE113.out | refine below_set ?_ GE114.out) | exact HB.out)))); have n2_ := Aside0.mk (blk_below (g := gb113) (o := .cells #[.int .u8 a0_0, .int .i64 a0_1, .string a0_2, .slice A0_3 l0_3.length c0_3, .int .i64 a0_4] 27 (0, 0)) (by (with_reducible repeat (first | refine blk_drewN ?_ _ | refine blk_drew ?_ | refine blk_alloc ?_ _)); exact BK113.out) hb); have n3_ := Aside0.mk (blk_below (g := gb114) (o := .cells #[.int .u8 0, .int .i64 0, .string (⟨#[]⟩ : ByteArray), .slice none 0 0, .int .i64 0] 27 (0, 0)) (by (with_reducible repeat (first | refine blk_drewN ?_ _ | refine blk_drew ?_ | refine blk_alloc ?_ _)); exact BK114.out) hb); have n4_ := Aside0.mk (below_step (by repeat (first | (with_reducible first | exact HB.out | apply below_alloc | apply pw_below_drewN | apply below_drew1 | refine below_set ?_ GE113.out | refine below_set ?_ GE114.out) | exact HB.out)) hb); clear HO0_3; clear BK113; clear BK114; clear HB; have HO0_3 := n0_; have HO117 := n1_; have BK113 := n2_; have BK114 := n3_; have HB := n4_; clear n0_ n1_ n2_ n3_ n4_; clear hb ho15; have hcz16_0 : w14.cell? ⟨gb113, 0, none⟩ = some (.int .u8 a0_0) := (blk_cell BK113.out 0).trans rfl; have hcz16_1 : w14.cell? ⟨gb113, 1, none⟩ = some (.int .i64 a0_1) := (blk_cell BK113.out 1).trans rfl; have hcz16_2 : w14.cell? ⟨gb113, 2, none⟩ = some (.string a0_2) := (blk_cell BK113.out 2).trans rfl; have hcz16_3 : w14.cell? ⟨gb113, 3, none⟩ = some (.slice A0_3 l0_3.length c0_3) := (blk_cell BK113.out 3).trans rfl; have hcz16_4 : w14.cell? ⟨gb113, 4, none⟩ = some (.int .i64 a0_4) := (blk_cell BK113.out 4).trans rfl; have hfz16_0 := blk_frozen BK113.out 0; have hfz16_1 := blk_frozen BK113.out 1; have hfz16_2 := blk_frozen BK113.out 2; have hfz16_3 := blk_frozen BK113.out 3; have hfz16_4 := blk_frozen BK113.out 4))
        go_loopg [19] k (fun kq v19 w' => ∃ (x3_1 : List (S27)) (x19_1 : Int) (x114000_1 : Int) (x114001_1 : Int) (x114002_1 : ByteArray) (x114003_1 : List (S27)) (x114004_1 : Int) (x115000_1 : Int) (x115001_1 : Int) (x115002_1 : ByteArray) (x115004_1 : Int) (u114003 : Value), v19 = .int .i64 x19_1 ∧ Aside0 (value_own.l0 kq x3_1 l0_3 (l0_3.length : Int) x19_1 x114000_1 x114001_1 x114002_1 x114003_1 x114004_1 = some (r1, r2, r3, r4, r5)) ∧ Aside0 (kq ≤ k) ∧ Aside0 (Kd.R k27 27 w' w.heap.size (fun k_ => (w.heap.size ≤ k_) ∧ k_ ≠ gb113 ∧ k_ ≠ gb114) v116 x3_1) ∧ Aside0 (Kd.V k27 27 w' w.heap.size (fun k_ => (P0_3_ k_ ∨ w.heap.size ≤ k_) ∧ some k_ ≠ (v116 : Value).ownBlock ∧ k_ ≠ gb113 ∧ k_ ≠ gb114) (.slice A0_3 l0_3.length c0_3) l0_3) ∧ Aside0 (Kd.V k27 27 w' w.heap.size (fun k_ => (P0_3_ k_ ∨ w.heap.size ≤ k_) ∧ some k_ ≠ (v116 : Value).ownBlock ∧ k_ ≠ gb113 ∧ k_ ≠ gb114) u114003 x114003_1) ∧ Aside0 (w'.heap[gb113]? = some (.cells #[.int .u8 x114000_1, .int .i64 x114001_1, .string x114002_1, u114003, .int .i64 x114004_1] 27 (0, 0))) ∧ Aside0 (w'.heap[gb114]? = some (.cells #[.int .u8 x115000_1, .int .i64 x115001_1, .string x115002_1, (.slice none 0 0), .int .i64 x115004_1] 27 (0, 0))) ∧ Aside0 (Below w.heap.size w w'))
        case atStart => exact ⟨(y115), (0), (a0_0), (a0_1), (a0_2), (l0_3), (a0_4), (0), (0), ((⟨#[]⟩ : ByteArray)), (0), (.slice A0_3 l0_3.length c0_3), (by first | rfl | (simp; done) | (simp [*]; done)), H', ⟨Nat.le_refl _⟩, ⟨by (with_reducible repeat (first | apply Kd.R_alloc | apply Kd.R_drewN | apply Kd.R_drew)); exact Kd.R_mono HO117.out (fun _ hk => ⟨hk.1.1.1, ⟨hk.1.2, hk.2⟩⟩)⟩, ⟨by (with_reducible repeat (first | apply Kd.V_alloc | apply Kd.V_drewN | apply Kd.V_drew)); exact Kd.V_mono HO0_3.out (fun _ hk => ⟨hk.1.1.1, ⟨hk.2, ⟨hk.1.1.2, hk.1.2⟩⟩⟩)⟩, ⟨by (with_reducible repeat (first | apply Kd.V_alloc | apply Kd.V_drewN | apply Kd.V_drew)); exact Kd.V_mono HO0_3.out (fun _ hk => ⟨hk.1.1.1, ⟨hk.2, ⟨hk.1.1.2, hk.1.2⟩⟩⟩)⟩, ⟨by (with_reducible repeat (first | refine blk_drewN ?_ _ | refine blk_drew ?_ | refine blk_alloc ?_ _)); exact BK113.out⟩, ⟨by (with_reducible repeat (first | refine blk_drewN ?_ _ | refine blk_drew ?_ | refine blk_alloc ?_ _)); exact BK114.out⟩, ⟨by repeat (first | (with_reducible first | exact HB.out | apply below_alloc | apply pw_below_drewN | apply below_drew1 | refine below_set ?_ GE113.out | refine below_set ?_ GE114.out) | exact HB.out)⟩⟩
        case round =>
          clear H'
          try clear c1
          try clear c2
          try clear c2b0
          try clear c2b1
          try clear c2b2
          try clear p2
          try clear c5
          try clear c8
          try clear c8b0
          try clear c8b1
          try clear c9
          try clear c9b0
          try clear c9b1
          try clear c12
          try clear hcz13_0
          try clear hcz13_1
          try clear hcz13_2
          try clear hcz13_3
          try clear hcz13_4
          try clear hcz16_0
          try clear hcz16_1
          try clear hcz16_2
          try clear hcz16_3
          try clear hcz16_4
          try clear hcz6_0
          try clear hcz6_1
          try clear hcz6_2
          try clear hcz6_3
          try clear hcz6_4
          try clear hcz7_0
          try clear hcz7_1
          try clear hcz7_2
          try clear hcz7_3
          try clear hcz7_4
          try clear hfz13_0
          try clear hfz13_1
          try clear hfz13_2
          try clear hfz13_3
          try clear hfz13_4
          try clear hfz16_0
          try clear hfz16_1
          try clear hfz16_2
          try clear hfz16_3
          try clear hfz16_4
          try clear hfz6_0
          try clear hfz6_1
          try clear hfz6_2
          try clear hfz6_3
          try clear hfz6_4
          try clear hfz7_0
          try clear hfz7_1
          try clear hfz7_2
          try clear hfz7_3
          try clear hfz7_4
          try clear HO_3
          try clear HO_17
          try clear HO_114003
          try clear BK113
          try clear BK114
          try clear HB
          try clear HA
          try clear HK1
          obtain ⟨x3_1, x19_1, x114000_1, x114001_1, x114002_1, x114003_1, x114004_1, x115000_1, x115001_1, x115002_1, x115004_1, u114003, rfl, HA, HK1, HO_3, HO_17, HO_114003, BK113, BK114, HB⟩ := hrel
          cases gk with
          | zero => exact absurd HA.out (by simp [value_own.l0])
          | succ k1 =>
            have H := HA.out
            clear HA
            simp only [value_own.l0] at H
            by_cases c17 : x19_1 < (l0_3.length : Int)
            · rw [if_pos c17] at H
              have c17b0 : decide (x19_1 < (l0_3.length : Int)) = true := decide_eq_true c17
              clear c17
              by_cases c18 : 0 ≤ x19_1
              · rw [if_pos c18] at H
                have c18b0 : decide (0 ≤ x19_1) = true := decide_eq_true c18
                clear c18
                by_cases c19 : x19_1 < (l0_3.length : Int)
                · rw [if_pos c19] at H
                  have c19b0 : decide (x19_1 < (l0_3.length : Int)) = true := decide_eq_true c19
                  clear c19
                  replace H := Option.bind_eq_some_iff.mp H
                  obtain ⟨⟨t120, t121, t122, t123, t126⟩, A200, H⟩ := H
                  replace H : (if x19_1 < (x3_1.length : Int) then (value_own.l0 k1 (x3_1.set (x19_1 : Int).toNat (⟨t120, t121, t122, t123, t126⟩ : S27)) l0_3 (l0_3.length : Int) (wrap64 (x19_1 + 1)) x114000_1 x114001_1 x114002_1 x114003_1 x114004_1) else (none)) = some (r1, r2, r3, r4, r5) := H
                  have A20 := Aside0.mk A200
                  clear A200
                  by_cases c21 : x19_1 < (x3_1.length : Int)
                  · rw [if_pos c21] at H
                    have c21b0 : decide (x19_1 < (x3_1.length : Int)) = true := decide_eq_true c21
                    clear c21
                    obtain ⟨y127, hy127⟩ : ∃ y_ : List (S27), y_ = (x3_1.set (x19_1 : Int).toNat (⟨t120, t121, t122, t123, t126⟩ : S27)) := ⟨_, rfl⟩
                    replace H : (value_own.l0 k1 y127 l0_3 (l0_3.length : Int) (wrap64 (x19_1 + 1)) x114000_1 x114001_1 x114002_1 x114003_1 x114004_1) = some (r1, r2, r3, r4, r5) := by first | (rw [hy127]; with_reducible exact H) | (have H2_ := (Option.bind_some _ _).symm.trans H; rw [hy127]; with_reducible exact H2_) | (have H2_ := (Option.bind_some _ _).symm.trans H; with_reducible exact H2_) | with_reducible exact H | (rw [hy127]; exact H) | exact H
                    have Ny127 := Aside0.mk hy127
                    clear hy127
                    have H' := Aside0.mk H
                    clear H
                    have p118 : 0 ≤ (x19_1 : Int) := of_decide_eq_true (by first | (with_reducible assumption) | assumption)
                    have q118 : x19_1 < (l0_3.length : Int) := of_decide_eq_true (by first | (with_reducible assumption) | assumption)
                    obtain ⟨ad118, A118_3, c118_3, e118, hx118_0, hx118_1, hx118_2, hx118_3, hx118_4, hl118_3, hi118_3⟩ := at_T27 (Kd.V_reads' HO_17.out).2.2 x19_1 p118 q118
                    cases e118
                    obtain ⟨ce118, hce118, hMe118, hcc118⟩ := Kd.V_get HO_17.out z27 x19_1 p118 (by first | exact q118 | exact of_decide_eq_true (by first | (with_reducible assumption) | assumption) | (have e_ := (Kd.V_reads' HO_17.out).1; omega))
                    obtain ⟨ua118_3, uc118_3, rfl, ul118_3, ge118_3⟩ := k27_openF hMe118
                    have hv118_3 := hcc118 3 _ rfl
                    rw [add_field _ _ 3 (by omega)] at hv118_3
                    replace hv118_3 := Option.some.inj (hv118_3.symm.trans hx118_3)
                    injection hv118_3 with hva_ hvn_ hvc_
                    rw [hva_] at ge118_3
                    rw [hvc_] at ul118_3
                    have HL118_3 := Aside0.mk (show Kd.V k27 27 _ w.heap.size _ _ ((rd_T27 l0_3 x19_1).f3) from Kd.V_mk ul118_3 ge118_3)
                    clear hva_ hvn_ hvc_ ge118_3 ul118_3
                    clear hcc118 hce118
                    have HR118_3 := Aside0.mk hi118_3
                    have HC118_3 := Aside0.mk hl118_3
                    clear hi118_3 hl118_3
                    replace p118 := eq_true p118
                    replace q118 := eq_true q118
                    go_wp2_with (first | ((with_reducible refine gate_dst (N := 5) rfl ?_); refine box_event ?hg (N := 5) ?hd (cs := #[.int .u8 0, .int .i64 0, .string (⟨#[]⟩ : ByteArray), .slice none 0 0, .int .i64 0]) (t := 27) ?hr ?_; (case hd => rfl); (case hg => rfl); (case hr => first | (go_simp; done) | (go_simp; rfl)); intro gb119 hg w23 hbox hb; have n0_ := Aside0.mk (Kd.R_below (Kd.R_elderB (by (with_reducible repeat (first | apply Kd.R_alloc | apply Kd.R_drewN | apply Kd.R_drew)); exact HO_3.out) gb119 (Nat.le_of_eq hg.symm)) hb); have n1_ := Aside0.mk (Kd.V_below (Kd.V_elderB (by (with_reducible repeat (first | apply Kd.V_alloc | apply Kd.V_drewN | apply Kd.V_drew)); exact HO_17.out) gb119 (Nat.le_of_eq hg.symm)) hb); have n2_ := Aside0.mk (Kd.V_below (Kd.V_elderB (by (with_reducible repeat (first | apply Kd.V_alloc | apply Kd.V_drewN | apply Kd.V_drew)); exact HO_114003.out) gb119 (Nat.le_of_eq hg.symm)) hb); have n3_ := Aside0.mk (Kd.V_below (Kd.V_elderB (by (with_reducible repeat (first | apply Kd.V_alloc | apply Kd.V_drewN | apply Kd.V_drew)); exact HL118_3.out) gb119 (Nat.le_of_eq hg.symm)) hb); have n4_ := Aside0.mk (blk_below (g := gb113) (o := .cells #[.int .u8 x114000_1, .int .i64 x114001_1, .string x114002_1, u114003, .int .i64 x114004_1] 27 (0, 0)) (by (with_reducible repeat (first | refine blk_drewN ?_ _ | refine blk_drew ?_ | refine blk_alloc ?_ _)); exact BK113.out) hb); have n5_ := Aside0.mk (blk_below (g := gb114) (o := .cells #[.int .u8 x115000_1, .int .i64 x115001_1, .string x115002_1, .slice none 0 0, .int .i64 x115004_1] 27 (0, 0)) (by (with_reducible repeat (first | refine blk_drewN ?_ _ | refine blk_drew ?_ | refine blk_alloc ?_ _)); exact BK114.out) hb); have n6_ := Aside0.mk (Kd.C_below (by repeat (first | (with_reducible exact HR118_3.out) | (with_reducible refine Kd.C_alloc ?_ _) | (with_reducible refine Kd.C_drewN ?_ _) | (with_reducible refine Kd.C_drew ?_) | exact HR118_3.out)) hb); have n7_ := Aside0.mk (below_step (by repeat (first | (with_reducible first | exact HB.out | apply below_alloc | apply pw_below_drewN | apply below_drew1 | refine below_set ?_ GE113.out | refine below_set ?_ GE114.out) | exact HB.out)) hb); have n8_ := Aside0.mk (hbox); have n9_ := Aside0.mk ((by rw [hg]; exact (below_size (by repeat (first | (with_reducible first | exact HB.out | apply below_alloc | apply pw_below_drewN | apply below_drew1 | refine below_set ?_ GE113.out | refine below_set ?_ GE114.out) | exact HB.out))) : w.heap.size ≤ gb119)); have n10_ := Aside0.mk ((by rw [hg]; exact (below_size (by repeat (first | (with_reducible first | exact HB.out | apply below_alloc | apply pw_below_drewN | apply below_drew1 | refine below_set ?_ GE113.out | refine below_set ?_ GE114.out) | exact HB.out))) : w.heap.size ≤ gb119)); have n11_ := Aside0.mk ((by rw [hg]; exact Nat.ne_of_lt (blk_lt (g := gb113) (o := .cells #[.int .u8 x114000_1, .int .i64 x114001_1, .string x114002_1, u114003, .int .i64 x114004_1] 27 (0, 0)) (by (with_reducible repeat (first | refine blk_drewN ?_ _ | refine blk_drew ?_ | refine blk_alloc ?_ _)); exact BK113.out)) : gb113 ≠ gb119)); have n12_ := Aside0.mk ((by rw [hg]; exact Nat.ne_of_gt (blk_lt (g := gb113) (o := .cells #[.int .u8 x114000_1, .int .i64 x114001_1, .string x114002_1, u114003, .int .i64 x114004_1] 27 (0, 0)) (by (with_reducible repeat (first | refine blk_drewN ?_ _ | refine blk_drew ?_ | refine blk_alloc ?_ _)); exact BK113.out)) : gb119 ≠ gb113)); have n13_ := Aside0.mk ((by rw [hg]; exact Nat.ne_of_lt (blk_lt (g := gb114) (o := .cells #[.int .u8 x115000_1, .int .i64 x115001_1, .string x115002_1, .slice none 0 0, .int .i64 x115004_1] 27 (0, 0)) (by (with_reducible repeat (first | refine blk_drewN ?_ _ | refine blk_drew ?_ | refine blk_alloc ?_ _)); exact BK114.out)) : gb114 ≠ gb119)); have n14_ := Aside0.mk ((by rw [hg]; exact Nat.ne_of_gt (blk_lt (g := gb114) (o := .cells #[.int .u8 x115000_1, .int .i64 x115001_1, .string x115002_1, .slice none 0 0, .int .i64 x115004_1] 27 (0, 0)) (by (with_reducible repeat (first | refine blk_drewN ?_ _ | refine blk_drew ?_ | refine blk_alloc ?_ _)); exact BK114.out)) : gb119 ≠ gb114)); clear HO_3; clear HO_17; clear HO_114003; clear HL118_3; clear BK113; clear BK114; clear HR118_3; clear HB; have HO_3 := n0_; have HO_17 := n1_; have HO_114003 := n2_; have HL118_3 := n3_; have BK113 := n4_; have BK114 := n5_; have HR118_3 := n6_; have HB := n7_; have BK119 := n8_; have GW119 := n9_; have GE119 := n10_; have NB113_119 := n11_; have NB119_113 := n12_; have NB114_119 := n13_; have NB119_114 := n14_; clear n0_ n1_ n2_ n3_ n4_ n5_ n6_ n7_ n8_ n9_ n10_ n11_ n12_ n13_ n14_; clear hb hbox hg; have hnb24 := NB119_113.out; have hnc24 := NB113_119.out; have hnb25 := NB119_114.out; have hnc25 := NB114_119.out; have hcz26_0 : w23.cell? ⟨gb119, 0, none⟩ = some (.int .u8 0) := (blk_cell BK119.out 0).trans rfl; have hcz26_1 : w23.cell? ⟨gb119, 1, none⟩ = some (.int .i64 0) := (blk_cell BK119.out 1).trans rfl; have hcz26_2 : w23.cell? ⟨gb119, 2, none⟩ = some (.string (⟨#[]⟩ : ByteArray)) := (blk_cell BK119.out 2).trans rfl; have hcz26_3 : w23.cell? ⟨gb119, 3, none⟩ = some (.slice none 0 0) := (blk_cell BK119.out 3).trans rfl; have hcz26_4 : w23.cell? ⟨gb119, 4, none⟩ = some (.int .i64 0) := (blk_cell BK119.out 4).trans rfl; have hfz26_0 := blk_frozen BK119.out 0; have hfz26_1 := blk_frozen BK119.out 1; have hfz26_2 := blk_frozen BK119.out 2; have hfz26_3 := blk_frozen BK119.out 3; have hfz26_4 := blk_frozen BK119.out 4) | ((with_reducible refine gate_store (t := 27) (p := 5) rfl ?_); refine store_event (t := 27) (p := 5) (v := ?vo_w27) (w1 := (((((w23.setCell ⟨gb119, 0, none⟩ (.int .u8 ((rd_T27 l0_3 x19_1).f0))).setCell ⟨gb119, 1, none⟩ (.int .i64 ((rd_T27 l0_3 x19_1).f1))).setCell ⟨gb119, 2, none⟩ (.string ((rd_T27 l0_3 x19_1).f2))).setCell ⟨gb119, 3, none⟩ (.slice A118_3 ((rd_T27 l0_3 x19_1).f3).length c118_3)).setCell ⟨gb119, 4, none⟩ (.int .i64 ((rd_T27 l0_3 x19_1).f4)))) ?hg ?ho ?hn ?hr ?_; (case ho => rfl); (case hg => rfl); (case hn => rfl); (case hr => first | (go_simp; done) | (go_simp; rfl)); intro w27 hw; have n0_ : Aside0 (Kd.R k27 27 w27 w.heap.size (fun k_ => (w.heap.size ≤ k_) ∧ k_ ≠ gb113 ∧ k_ ≠ gb114 ∧ k_ ≠ gb119) v116 x3_1) := ⟨(by rw [hw]; exact (by (with_reducible repeat (first | apply Kd.R_alloc | apply Kd.R_drewN | apply Kd.R_drew)); exact Kd.R_mono (Kd.R_far (p := ⟨gb119, 4, none⟩) (Kd.R_far (p := ⟨gb119, 3, none⟩) (Kd.R_far (p := ⟨gb119, 2, none⟩) (Kd.R_far (p := ⟨gb119, 1, none⟩) (Kd.R_far (p := ⟨gb119, 0, none⟩) (Kd.R_mono HO_3.out (fun k_ hk => (⟨hk, hk.2⟩ : _ ∧ k_ ≠ gb119))) (fun _ hk => hk.2) (.int .u8 ((rd_T27 l0_3 x19_1).f0))) (fun _ hk => hk.2) (.int .i64 ((rd_T27 l0_3 x19_1).f1))) (fun _ hk => hk.2) (.string ((rd_T27 l0_3 x19_1).f2))) (fun _ hk => hk.2) (.slice A118_3 ((rd_T27 l0_3 x19_1).f3).length c118_3)) (fun _ hk => hk.2) (.int .i64 ((rd_T27 l0_3 x19_1).f4))) (fun _ hk => ⟨hk.1.1.1, ⟨hk.1.1.2.1, ⟨hk.1.1.2.2, hk.1.2⟩⟩⟩)))⟩; have n1_ : Aside0 (Kd.V k27 27 w27 w.heap.size (fun k_ => (P0_3_ k_ ∨ w.heap.size ≤ k_) ∧ some k_ ≠ (v116 : Value).ownBlock ∧ k_ ≠ gb113 ∧ k_ ≠ gb114 ∧ k_ ≠ gb119) (.slice (some ad118) l0_3.length c0_3) l0_3) := ⟨(by rw [hw]; exact (by (with_reducible repeat (first | apply Kd.V_alloc | apply Kd.V_drewN | apply Kd.V_drew)); exact Kd.V_mono (Kd.V_far (p := ⟨gb119, 4, none⟩) (Kd.V_far (p := ⟨gb119, 3, none⟩) (Kd.V_far (p := ⟨gb119, 2, none⟩) (Kd.V_far (p := ⟨gb119, 1, none⟩) (Kd.V_far (p := ⟨gb119, 0, none⟩) (Kd.V_mono HO_17.out (fun k_ hk => (⟨hk, hk.2⟩ : _ ∧ k_ ≠ gb119))) (fun _ hk => hk.2) (.int .u8 ((rd_T27 l0_3 x19_1).f0))) (fun _ hk => hk.2) (.int .i64 ((rd_T27 l0_3 x19_1).f1))) (fun _ hk => hk.2) (.string ((rd_T27 l0_3 x19_1).f2))) (fun _ hk => hk.2) (.slice A118_3 ((rd_T27 l0_3 x19_1).f3).length c118_3)) (fun _ hk => hk.2) (.int .i64 ((rd_T27 l0_3 x19_1).f4))) (fun _ hk => ⟨hk.1.1.1, ⟨hk.1.1.2.1, ⟨hk.1.1.2.2.1, ⟨hk.1.1.2.2.2, hk.1.2⟩⟩⟩⟩)))⟩; have n2_ : Aside0 (Kd.V k27 27 w27 w.heap.size (fun k_ => (P0_3_ k_ ∨ w.heap.size ≤ k_) ∧ some k_ ≠ (v116 : Value).ownBlock ∧ k_ ≠ gb113 ∧ k_ ≠ gb114 ∧ k_ ≠ gb119) u114003 x114003_1) := ⟨(by rw [hw]; exact (by (with_reducible repeat (first | apply Kd.V_alloc | apply Kd.V_drewN | apply Kd.V_drew)); exact Kd.V_mono (Kd.V_far (p := ⟨gb119, 4, none⟩) (Kd.V_far (p := ⟨gb119, 3, none⟩) (Kd.V_far (p := ⟨gb119, 2, none⟩) (Kd.V_far (p := ⟨gb119, 1, none⟩) (Kd.V_far (p := ⟨gb119, 0, none⟩) (Kd.V_mono HO_114003.out (fun k_ hk => (⟨hk, hk.2⟩ : _ ∧ k_ ≠ gb119))) (fun _ hk => hk.2) (.int .u8 ((rd_T27 l0_3 x19_1).f0))) (fun _ hk => hk.2) (.int .i64 ((rd_T27 l0_3 x19_1).f1))) (fun _ hk => hk.2) (.string ((rd_T27 l0_3 x19_1).f2))) (fun _ hk => hk.2) (.slice A118_3 ((rd_T27 l0_3 x19_1).f3).length c118_3)) (fun _ hk => hk.2) (.int .i64 ((rd_T27 l0_3 x19_1).f4))) (fun _ hk => ⟨hk.1.1.1, ⟨hk.1.1.2.1, ⟨hk.1.1.2.2.1, ⟨hk.1.1.2.2.2, hk.1.2⟩⟩⟩⟩)))⟩; have n3_ : Aside0 (Kd.V k27 27 w27 w.heap.size (fun k_ => (P0_3_ k_ ∨ w.heap.size ≤ k_) ∧ some k_ ≠ (v116 : Value).ownBlock ∧ k_ ≠ gb113 ∧ k_ ≠ gb114 ∧ k_ ≠ gb119) (.slice A118_3 ((rd_T27 l0_3 x19_1).f3).length c118_3) ((rd_T27 l0_3 x19_1).f3)) := ⟨(by rw [hw]; exact (by (with_reducible repeat (first | apply Kd.V_alloc | apply Kd.V_drewN | apply Kd.V_drew)); exact Kd.V_mono (Kd.V_far (p := ⟨gb119, 4, none⟩) (Kd.V_far (p := ⟨gb119, 3, none⟩) (Kd.V_far (p := ⟨gb119, 2, none⟩) (Kd.V_far (p := ⟨gb119, 1, none⟩) (Kd.V_far (p := ⟨gb119, 0, none⟩) (Kd.V_mono HL118_3.out (fun k_ hk => (⟨hk, hk.2⟩ : _ ∧ k_ ≠ gb119))) (fun _ hk => hk.2) (.int .u8 ((rd_T27 l0_3 x19_1).f0))) (fun _ hk => hk.2) (.int .i64 ((rd_T27 l0_3 x19_1).f1))) (fun _ hk => hk.2) (.string ((rd_T27 l0_3 x19_1).f2))) (fun _ hk => hk.2) (.slice A118_3 ((rd_T27 l0_3 x19_1).f3).length c118_3)) (fun _ hk => hk.2) (.int .i64 ((rd_T27 l0_3 x19_1).f4))) (fun _ hk => ⟨hk.1.1.1, ⟨hk.1.1.2.1, ⟨hk.1.1.2.2.1, ⟨hk.1.1.2.2.2, hk.1.2⟩⟩⟩⟩)))⟩; have n4_ : Aside0 (w27.heap[gb113]? = some (.cells #[.int .u8 x114000_1, .int .i64 x114001_1, .string x114002_1, u114003, .int .i64 x114004_1] 27 (0, 0))) := ⟨(by rw [hw]; exact (by (with_reducible repeat (first | refine blk_drewN ?_ _ | refine blk_drew ?_ | refine blk_alloc ?_ _)); refine blk_far ?_ NB113_119.out _; (with_reducible repeat (first | refine blk_drewN ?_ _ | refine blk_drew ?_ | refine blk_alloc ?_ _)); refine blk_far ?_ NB113_119.out _; (with_reducible repeat (first | refine blk_drewN ?_ _ | refine blk_drew ?_ | refine blk_alloc ?_ _)); refine blk_far ?_ NB113_119.out _; (with_reducible repeat (first | refine blk_drewN ?_ _ | refine blk_drew ?_ | refine blk_alloc ?_ _)); refine blk_far ?_ NB113_119.out _; (with_reducible repeat (first | refine blk_drewN ?_ _ | refine blk_drew ?_ | refine blk_alloc ?_ _)); refine blk_far ?_ NB113_119.out _; (with_reducible repeat (first | refine blk_drewN ?_ _ | refine blk_drew ?_ | refine blk_alloc ?_ _)); exact BK113.out))⟩; have n5_ : Aside0 (w27.heap[gb114]? = some (.cells #[.int .u8 x115000_1, .int .i64 x115001_1, .string x115002_1, .slice none 0 0, .int .i64 x115004_1] 27 (0, 0))) := ⟨(by rw [hw]; exact (by (with_reducible repeat (first | refine blk_drewN ?_ _ | refine blk_drew ?_ | refine blk_alloc ?_ _)); refine blk_far ?_ NB114_119.out _; (with_reducible repeat (first | refine blk_drewN ?_ _ | refine blk_drew ?_ | refine blk_alloc ?_ _)); refine blk_far ?_ NB114_119.out _; (with_reducible repeat (first | refine blk_drewN ?_ _ | refine blk_drew ?_ | refine blk_alloc ?_ _)); refine blk_far ?_ NB114_119.out _; (with_reducible repeat (first | refine blk_drewN ?_ _ | refine blk_drew ?_ | refine blk_alloc ?_ _)); refine blk_far ?_ NB114_119.out _; (with_reducible repeat (first | refine blk_drewN ?_ _ | refine blk_drew ?_ | refine blk_alloc ?_ _)); refine blk_far ?_ NB114_119.out _; (with_reducible repeat (first | refine blk_drewN ?_ _ | refine blk_drew ?_ | refine blk_alloc ?_ _)); exact BK114.out))⟩; have n6_ : Aside0 (w27.heap[gb119]? = some (.cells #[.int .u8 ((rd_T27 l0_3 x19_1).f0), .int .i64 ((rd_T27 l0_3 x19_1).f1), .string ((rd_T27 l0_3 x19_1).f2), .slice A118_3 ((rd_T27 l0_3 x19_1).f3).length c118_3, .int .i64 ((rd_T27 l0_3 x19_1).f4)] 27 (0, 0))) := ⟨(by rw [hw]; exact (by (with_reducible repeat (first | refine blk_drewN ?_ _ | refine blk_drew ?_ | refine blk_alloc ?_ _)); refine blk_put (cs := #[.int .u8 ((rd_T27 l0_3 x19_1).f0), .int .i64 ((rd_T27 l0_3 x19_1).f1), .string ((rd_T27 l0_3 x19_1).f2), .slice A118_3 ((rd_T27 l0_3 x19_1).f3).length c118_3, .int .i64 0]) ?_ 4 _ rfl; (with_reducible repeat (first | refine blk_drewN ?_ _ | refine blk_drew ?_ | refine blk_alloc ?_ _)); refine blk_put (cs := #[.int .u8 ((rd_T27 l0_3 x19_1).f0), .int .i64 ((rd_T27 l0_3 x19_1).f1), .string ((rd_T27 l0_3 x19_1).f2), .slice none 0 0, .int .i64 0]) ?_ 3 _ rfl; (with_reducible repeat (first | refine blk_drewN ?_ _ | refine blk_drew ?_ | refine blk_alloc ?_ _)); refine blk_put (cs := #[.int .u8 ((rd_T27 l0_3 x19_1).f0), .int .i64 ((rd_T27 l0_3 x19_1).f1), .string (⟨#[]⟩ : ByteArray), .slice none 0 0, .int .i64 0]) ?_ 2 _ rfl; (with_reducible repeat (first | refine blk_drewN ?_ _ | refine blk_drew ?_ | refine blk_alloc ?_ _)); refine blk_put (cs := #[.int .u8 ((rd_T27 l0_3 x19_1).f0), .int .i64 0, .string (⟨#[]⟩ : ByteArray), .slice none 0 0, .int .i64 0]) ?_ 1 _ rfl; (with_reducible repeat (first | refine blk_drewN ?_ _ | refine blk_drew ?_ | refine blk_alloc ?_ _)); refine blk_put (cs := #[.int .u8 0, .int .i64 0, .string (⟨#[]⟩ : ByteArray), .slice none 0 0, .int .i64 0]) ?_ 0 _ rfl; (with_reducible repeat (first | refine blk_drewN ?_ _ | refine blk_drew ?_ | refine blk_alloc ?_ _)); exact BK119.out))⟩; have n7_ : Aside0 (Below w.heap.size w w27) := ⟨(by rw [hw]; exact (by repeat (first | (with_reducible first | exact HB.out | apply below_alloc | apply pw_below_drewN | apply below_drew1 | refine below_set ?_ GE113.out | refine below_set ?_ GE114.out | refine below_set ?_ GE119.out) | exact HB.out)))⟩; clear hw; clear HO_3; clear HO_17; clear HO_114003; clear HL118_3; clear BK113; clear BK114; clear BK119; clear HB; have HO_3 := n0_; have HO_17 := n1_; have HO_114003 := n2_; have HL118_3 := n3_; have BK113 := n4_; have BK114 := n5_; have BK119 := n6_; have HB := n7_; clear n0_ n1_ n2_ n3_ n4_ n5_ n6_ n7_; have hcz28_0 : w27.cell? ⟨gb119, 0, none⟩ = some (.int .u8 ((rd_T27 l0_3 x19_1).f0)) := (blk_cell BK119.out 0).trans rfl; have hcz28_1 : w27.cell? ⟨gb119, 1, none⟩ = some (.int .i64 ((rd_T27 l0_3 x19_1).f1)) := (blk_cell BK119.out 1).trans rfl; have hcz28_2 : w27.cell? ⟨gb119, 2, none⟩ = some (.string ((rd_T27 l0_3 x19_1).f2)) := (blk_cell BK119.out 2).trans rfl; have hcz28_3 : w27.cell? ⟨gb119, 3, none⟩ = some (.slice A118_3 ((rd_T27 l0_3 x19_1).f3).length c118_3) := (blk_cell BK119.out 3).trans rfl; have hcz28_4 : w27.cell? ⟨gb119, 4, none⟩ = some (.int .i64 ((rd_T27 l0_3 x19_1).f4)) := (blk_cell BK119.out 4).trans rfl; have hfz28_0 := blk_frozen BK119.out 0; have hfz28_1 := blk_frozen BK119.out 1; have hfz28_2 := blk_frozen BK119.out 2; have hfz28_3 := blk_frozen BK119.out 3; have hfz28_4 := blk_frozen BK119.out 4) | ((with_reducible refine gate_callee (f := 56) rfl ?_); refine goesL_ (some 27) rfl rfl Try.func56 (by kernel_rfl) rfl #[.agg #[.int .u8 ((rd_T27 l0_3 x19_1).f0), .int .i64 ((rd_T27 l0_3 x19_1).f1), .string ((rd_T27 l0_3 x19_1).f2), .slice A118_3 ((rd_T27 l0_3 x19_1).f3).length c118_3, .int .i64 ((rd_T27 l0_3 x19_1).f4)]] rfl (by (try simp only [List.map_toArray, List.map_cons, List.map_nil]); first | done | rfl | (simp only [List.length_drop, List.length_take]; rfl)) ?_; (with_reducible refine (ih k1 (by have := HK1.out; omega) ((rd_T27 l0_3 x19_1).f0) ((rd_T27 l0_3 x19_1).f1) ((rd_T27 l0_3 x19_1).f2) (fun k_ => ((P0_3_ k_ ∨ w.heap.size ≤ k_) ∧ (some k_ ≠ (v116 : Value).ownBlock ∧ (k_ ≠ gb113 ∧ (k_ ≠ gb114 ∧ k_ ≠ gb119))))) _ _ ((rd_T27 l0_3 x19_1).f3) ((rd_T27 l0_3 x19_1).f4) t120 t121 t122 t123 t126 _ ?side1 A20.out).mono ?_); (case side1 => exact HL118_3.out); rintro e w29 ⟨v124, rfl, ho0, hb⟩; obtain ⟨A124, c124, rfl⟩ := Kd.R_slice ho0; refine ⟨_, rfl, ?_⟩; have n0_ := Aside0.mk (Kd.R_elder' (by (with_reducible repeat (first | apply Kd.R_alloc | apply Kd.R_drewN | apply Kd.R_drew)); exact HO_3.out) (Kd.R_base ho0) hb); have n1_ := Aside0.mk (Kd.V_elder' (by (with_reducible repeat (first | apply Kd.V_alloc | apply Kd.V_drewN | apply Kd.V_drew)); exact HO_17.out) (Kd.R_base ho0) hb); have n2_ := Aside0.mk (Kd.V_elder' (by (with_reducible repeat (first | apply Kd.V_alloc | apply Kd.V_drewN | apply Kd.V_drew)); exact HO_114003.out) (Kd.R_base ho0) hb); have n3_ := Aside0.mk (Kd.V_elder' (by (with_reducible repeat (first | apply Kd.V_alloc | apply Kd.V_drewN | apply Kd.V_drew)); exact HL118_3.out) (Kd.R_base ho0) hb); have n4_ := Aside0.mk (Kd.R_lower (Kd.R_newB (Kd.R_newB (Kd.R_newB (Kd.R_new' (Kd.R_newM (M := fun k_ => (w.heap.size ≤ k_)) (Kd.R_mono (ok' := fun k_ => True) ho0 (fun _ hk_ => trivial)) (below_size (by repeat (first | (with_reducible first | exact HB.out | apply below_alloc | apply pw_below_drewN | apply below_drew1 | refine below_set ?_ GE113.out | refine below_set ?_ GE114.out | refine below_set ?_ GE119.out) | exact HB.out))) (fun k_ h_ => h_)) (Kd.R_lt (by (with_reducible repeat (first | apply Kd.R_alloc | apply Kd.R_drewN | apply Kd.R_drew)); exact HO_3.out))) (g := gb113) (o := .cells #[.int .u8 x114000_1, .int .i64 x114001_1, .string x114002_1, u114003, .int .i64 x114004_1] 27 (0, 0)) (by (with_reducible repeat (first | refine blk_drewN ?_ _ | refine blk_drew ?_ | refine blk_alloc ?_ _)); exact BK113.out)) (g := gb114) (o := .cells #[.int .u8 x115000_1, .int .i64 x115001_1, .string x115002_1, .slice none 0 0, .int .i64 x115004_1] 27 (0, 0)) (by (with_reducible repeat (first | refine blk_drewN ?_ _ | refine blk_drew ?_ | refine blk_alloc ?_ _)); exact BK114.out)) (g := gb119) (o := .cells #[.int .u8 ((rd_T27 l0_3 x19_1).f0), .int .i64 ((rd_T27 l0_3 x19_1).f1), .string ((rd_T27 l0_3 x19_1).f2), .slice A118_3 ((rd_T27 l0_3 x19_1).f3).length c118_3, .int .i64 ((rd_T27 l0_3 x19_1).f4)] 27 (0, 0)) (by (with_reducible repeat (first | refine blk_drewN ?_ _ | refine blk_drew ?_ | refine blk_alloc ?_ _)); exact BK119.out)) (below_size (by repeat (first | (with_reducible first | exact HB.out | apply below_alloc | apply pw_below_drewN | apply below_drew1 | refine below_set ?_ GE113.out | refine below_set ?_ GE114.out | refine below_set ?_ GE119.out) | exact HB.out)))); have n5_ := Aside0.mk (blk_below (g := gb113) (o := .cells #[.int .u8 x114000_1, .int .i64 x114001_1, .string x114002_1, u114003, .int .i64 x114004_1] 27 (0, 0)) (by (with_reducible repeat (first | refine blk_drewN ?_ _ | refine blk_drew ?_ | refine blk_alloc ?_ _)); exact BK113.out) hb); have n6_ := Aside0.mk (blk_below (g := gb114) (o := .cells #[.int .u8 x115000_1, .int .i64 x115001_1, .string x115002_1, .slice none 0 0, .int .i64 x115004_1] 27 (0, 0)) (by (with_reducible repeat (first | refine blk_drewN ?_ _ | refine blk_drew ?_ | refine blk_alloc ?_ _)); exact BK114.out) hb); have n7_ := Aside0.mk (Kd.C_below (Kd.V_reads' HL118_3.out).2.2 hb); have n8_ := Aside0.mk (blk_below (g := gb119) (o := .cells #[.int .u8 ((rd_T27 l0_3 x19_1).f0), .int .i64 ((rd_T27 l0_3 x19_1).f1), .string ((rd_T27 l0_3 x19_1).f2), .slice A118_3 ((rd_T27 l0_3 x19_1).f3).length c118_3, .int .i64 ((rd_T27 l0_3 x19_1).f4)] 27 (0, 0)) (by (with_reducible repeat (first | refine blk_drewN ?_ _ | refine blk_drew ?_ | refine blk_alloc ?_ _)); exact BK119.out) hb); have n9_ := Aside0.mk (below_step (by repeat (first | (with_reducible first | exact HB.out | apply below_alloc | apply pw_below_drewN | apply below_drew1 | refine below_set ?_ GE113.out | refine below_set ?_ GE114.out | refine below_set ?_ GE119.out) | exact HB.out)) hb); clear HO_3; clear HO_17; clear HO_114003; clear HL118_3; clear BK113; clear BK114; clear HR118_3; clear BK119; clear HB; have HO_3 := n0_; have HO_17 := n1_; have HO_114003 := n2_; have HL118_3 := n3_; have HO125 := n4_; have BK113 := n5_; have BK114 := n6_; have HR118_3 := n7_; have BK119 := n8_; have HB := n9_; clear n0_ n1_ n2_ n3_ n4_ n5_ n6_ n7_ n8_ n9_; (try clear hb); (try clear hb2); (try clear hk); (try clear hi); (try clear ho0); have p22 : 0 ≤ (x19_1 : Int) := of_decide_eq_true (by first | (with_reducible assumption) | assumption); have q22 : (x19_1 : Int) < ((x3_1.length : Int) : Int) := of_decide_eq_true (by first | (with_reducible assumption) | assumption); obtain ⟨go22, co22, eo22, gb22, gl22, cl22, HG22⟩ := Kd.R_form HO_3.out (by omega); (first | cases eo22 | (injection eo22 with ea_ en_ ec_; (first | subst ea_ | (injection ea_ with ea_; subst ea_)); subst ec_; clear en_)); have GB22 := Aside0.mk gb22; have GG22 := Aside0.mk HG22; clear gb22 gl22 HG22; obtain ⟨ce22, hcl22, hM22, hcc22, hfr22⟩ := Kd.R_elem HO_3.out z27 (x19_1 : Int) p22 q22; obtain ⟨ve22_3, rfl, ge22_3⟩ := k27_openM hM22; have hx22_0 : w29.cell? ⟨go22, (x19_1 : Int).toNat * 5, none⟩ = some (.int .u8 ((rd_T27 x3_1 x19_1).f0)) := hcc22 0 _ rfl; have hx22_1 : w29.cell? ⟨go22, (x19_1 : Int).toNat * 5 + 1, none⟩ = some (.int .i64 ((rd_T27 x3_1 x19_1).f1)) := hcc22 1 _ rfl; have hx22_2 : w29.cell? ⟨go22, (x19_1 : Int).toNat * 5 + 2, none⟩ = some (.string ((rd_T27 x3_1 x19_1).f2)) := hcc22 2 _ rfl; have hx22_3 : w29.cell? ⟨go22, (x19_1 : Int).toNat * 5 + 3, none⟩ = some (ve22_3) := hcc22 3 _ rfl; have hx22_4 : w29.cell? ⟨go22, (x19_1 : Int).toNat * 5 + 4, none⟩ = some (.int .i64 ((rd_T27 x3_1 x19_1).f4)) := hcc22 4 _ rfl; have hf22_0 : w29.frozen? ⟨go22, (x19_1 : Int).toNat * 5, none⟩ = false := hfr22 0; have hf22_1 : w29.frozen? ⟨go22, (x19_1 : Int).toNat * 5 + 1, none⟩ = false := hfr22 1; have hf22_2 : w29.frozen? ⟨go22, (x19_1 : Int).toNat * 5 + 2, none⟩ = false := hfr22 2; have hf22_3 : w29.frozen? ⟨go22, (x19_1 : Int).toNat * 5 + 3, none⟩ = false := hfr22 3; have hf22_4 : w29.frozen? ⟨go22, (x19_1 : Int).toNat * 5 + 4, none⟩ = false := hfr22 4; clear hcl22 hcc22 hfr22 hM22; replace p22 := eq_true p22; replace q22 := eq_true q22; have n_ := Aside0.mk (Kd.R_mono (ok' := (fun k_ => (w.heap.size ≤ k_) ∧ some k_ ≠ ((Value.slice A124 t123.length c124) : Value).ownBlock ∧ k_ ≠ gb113 ∧ k_ ≠ gb114 ∧ k_ ≠ gb119)) HO_3.out (fun k_ hk => ⟨hk.1.1, ⟨hk.2, ⟨hk.1.2.1, ⟨hk.1.2.2.1, hk.1.2.2.2⟩⟩⟩⟩)); clear HO_3; have HO_3 := n_; clear n_; have HX30 := Aside0.mk (show Kd.R k27 27 w29 w.heap.size (fun k_ => (w.heap.size ≤ k_) ∧ k_ ≠ gb113 ∧ k_ ≠ gb114 ∧ k_ ≠ gb119) (.slice (some ⟨go22, 0, none⟩) x3_1.length co22) x3_1 from (by (with_reducible repeat (first | apply Kd.R_alloc | apply Kd.R_drewN | apply Kd.R_drew)); exact Kd.R_mono HO_3.out (fun _ hk => ⟨hk.1, ⟨hk.2.2.1, ⟨hk.2.2.2.1, hk.2.2.2.2⟩⟩⟩))); obtain ⟨ce30, hcl30, hM30, hcc30, hfr30⟩ := Kd.R_elem HX30.out z27 (x19_1 : Int) (of_decide_eq_true (by first | (with_reducible assumption) | assumption)) (by have h_ : (x19_1 : Int) < ((x3_1.length : Int) : Int) := of_decide_eq_true (by first | (with_reducible assumption) | assumption); first | exact h_ | (have e_ := (Kd.R_reads' HO_3.out).1; omega) | simpa using h_); obtain ⟨ve30_3, rfl, ge30_3⟩ := k27_openM hM30; have HP30 := Kd.R_seg HX30.out (x19_1 : Int) (of_decide_eq_true (by first | (with_reducible assumption) | assumption)) (by have h_ : (x19_1 : Int) < ((x3_1.length : Int) : Int) := of_decide_eq_true (by first | (with_reducible assumption) | assumption); first | exact h_ | (have e_ := (Kd.R_reads' HO_3.out).1; omega) | simpa using h_) (seg := [.int .u8 t120, .int .i64 t121, .string t122, (Value.slice A124 t123.length c124), .int .i64 t126]) (j := 0) hcl30 hcc30 (show 5 ≤ 5 from by decide) (x' := (⟨t120, t121, t122, t123, t126⟩ : S27)) (k27_mkM _ _ _ (⟨t120, t121, t122, t123, t126⟩ : S27) (Kd.R_mono (HO125.out) (fun k_ hk => ⟨⟨hk.1.1.1.1.1, ⟨hk.1.1.2, ⟨hk.1.2, hk.2⟩⟩⟩, fun e_ => (hk.1.1.1.2) (by rw [e_]; rfl)⟩))) (fun _ hk => hk); have hx30_0 := hcc30 0 _ rfl; (try simp only [show (k27).sz = 5 from rfl, Nat.mul_one, Nat.add_zero] at hx30_0); have hf30_0 := hfr30 0; (try simp only [show (k27).sz = 5 from rfl, Nat.mul_one, Nat.add_zero] at hf30_0); have hx30_1 := hcc30 1 _ rfl; (try simp only [show (k27).sz = 5 from rfl, Nat.mul_one, Nat.add_zero] at hx30_1); have hf30_1 := hfr30 1; (try simp only [show (k27).sz = 5 from rfl, Nat.mul_one, Nat.add_zero] at hf30_1); have hx30_2 := hcc30 2 _ rfl; (try simp only [show (k27).sz = 5 from rfl, Nat.mul_one, Nat.add_zero] at hx30_2); have hf30_2 := hfr30 2; (try simp only [show (k27).sz = 5 from rfl, Nat.mul_one, Nat.add_zero] at hf30_2); have hx30_3 := hcc30 3 _ rfl; (try simp only [show (k27).sz = 5 from rfl, Nat.mul_one, Nat.add_zero] at hx30_3); have hf30_3 := hfr30 3; (try simp only [show (k27).sz = 5 from rfl, Nat.mul_one, Nat.add_zero] at hf30_3); have hx30_4 := hcc30 4 _ rfl; (try simp only [show (k27).sz = 5 from rfl, Nat.mul_one, Nat.add_zero] at hx30_4); have hf30_4 := hfr30 4; (try simp only [show (k27).sz = 5 from rfl, Nat.mul_one, Nat.add_zero] at hf30_4); clear hcl30 hcc30 hfr30 hM30) | ((with_reducible refine gate_store (t := 27) (p := 28) rfl ?_); refine store_event (t := 27) (p := 28) (v := ?vo_w31) (w1 := (((((w29.setCell ⟨go22, (x19_1 : Int).toNat * 5, none⟩ (.int .u8 t120)).setCell ⟨go22, (x19_1 : Int).toNat * 5 + 1, none⟩ (.int .i64 t121)).setCell ⟨go22, (x19_1 : Int).toNat * 5 + 2, none⟩ (.string t122)).setCell ⟨go22, (x19_1 : Int).toNat * 5 + 3, none⟩ ((Value.slice A124 t123.length c124))).setCell ⟨go22, (x19_1 : Int).toNat * 5 + 4, none⟩ (.int .i64 t126))) ?hg ?ho ?hn ?hr ?_; (case ho => rfl); (case hg => rfl); (case hn => rfl); (case hr => first | (go_simp; done) | (go_simp; rfl)); intro w31 hw; have hg : w29.grownBy w31 (some go22) := (by rw [hw]; exact HP30.2); have hp_ : Kd.R k27 27 w31 w.heap.size (fun k_ => (w.heap.size ≤ k_) ∧ k_ ≠ gb113 ∧ k_ ≠ gb114 ∧ k_ ≠ gb119) (.slice (some ⟨go22, 0, none⟩) x3_1.length co22) y127 := (by rw [hw, Ny127.out]; exact HP30.1); clear HP30; have n0_ := Aside0.mk (hp_); have n1_ := Aside0.mk (Kd.V_afterv (v := (.slice (some ⟨go22, 0, none⟩) x3_1.length co22)) (v1 := (.slice (some ⟨go22, 0, none⟩) x3_1.length co22)) (ok := (fun k_ => (P0_3_ k_ ∨ w.heap.size ≤ k_) ∧ some k_ ≠ ((Value.slice A124 t123.length c124) : Value).ownBlock ∧ k_ ≠ gb113 ∧ k_ ≠ gb114 ∧ k_ ≠ gb119)) (by (with_reducible repeat (first | apply Kd.V_alloc | apply Kd.V_drewN | apply Kd.V_drew)); exact Kd.V_mono HO_17.out (fun _ hk => ⟨⟨hk.1.1, ⟨hk.2, ⟨hk.1.2.2.1, ⟨hk.1.2.2.2.1, hk.1.2.2.2.2⟩⟩⟩⟩, hk.1.2.1⟩)) hg (.inl rfl)); have n2_ := Aside0.mk (Kd.V_afterv (v := (.slice (some ⟨go22, 0, none⟩) x3_1.length co22)) (v1 := (.slice (some ⟨go22, 0, none⟩) x3_1.length co22)) (ok := (fun k_ => (P0_3_ k_ ∨ w.heap.size ≤ k_) ∧ some k_ ≠ ((Value.slice A124 t123.length c124) : Value).ownBlock ∧ k_ ≠ gb113 ∧ k_ ≠ gb114 ∧ k_ ≠ gb119)) (by (with_reducible repeat (first | apply Kd.V_alloc | apply Kd.V_drewN | apply Kd.V_drew)); exact Kd.V_mono HO_114003.out (fun _ hk => ⟨⟨hk.1.1, ⟨hk.2, ⟨hk.1.2.2.1, ⟨hk.1.2.2.2.1, hk.1.2.2.2.2⟩⟩⟩⟩, hk.1.2.1⟩)) hg (.inl rfl)); have n3_ := Aside0.mk (blk_grown (g := gb113) (o := .cells #[.int .u8 x114000_1, .int .i64 x114001_1, .string x114002_1, u114003, .int .i64 x114004_1] 27 (0, 0)) (by (with_reducible repeat (first | refine blk_drewN ?_ _ | refine blk_drew ?_ | refine blk_alloc ?_ _)); exact BK113.out) hg (Kd.R_away HO_3.out (fun _ hk => hk.2.2.1))); have n4_ := Aside0.mk (blk_grown (g := gb114) (o := .cells #[.int .u8 x115000_1, .int .i64 x115001_1, .string x115002_1, .slice none 0 0, .int .i64 x115004_1] 27 (0, 0)) (by (with_reducible repeat (first | refine blk_drewN ?_ _ | refine blk_drew ?_ | refine blk_alloc ?_ _)); exact BK114.out) hg (Kd.R_away HO_3.out (fun _ hk => hk.2.2.2.1))); have n5_ := Aside0.mk (Kd.V_afterv (v := (.slice (some ⟨go22, 0, none⟩) x3_1.length co22)) (v1 := (.slice (some ⟨go22, 0, none⟩) x3_1.length co22)) (ok := (fun k_ => (P0_3_ k_ ∨ w.heap.size ≤ k_) ∧ some k_ ≠ ((Value.slice A124 t123.length c124) : Value).ownBlock ∧ k_ ≠ gb113 ∧ k_ ≠ gb114 ∧ k_ ≠ gb119)) (by (with_reducible repeat (first | apply Kd.V_alloc | apply Kd.V_drewN | apply Kd.V_drew)); exact Kd.V_mono HL118_3.out (fun _ hk => ⟨⟨hk.1.1, ⟨hk.2, ⟨hk.1.2.2.1, ⟨hk.1.2.2.2.1, hk.1.2.2.2.2⟩⟩⟩⟩, hk.1.2.1⟩)) hg (.inl rfl)); have n6_ := Aside0.mk (blk_grown (g := gb119) (o := .cells #[.int .u8 ((rd_T27 l0_3 x19_1).f0), .int .i64 ((rd_T27 l0_3 x19_1).f1), .string ((rd_T27 l0_3 x19_1).f2), .slice A118_3 ((rd_T27 l0_3 x19_1).f3).length c118_3, .int .i64 ((rd_T27 l0_3 x19_1).f4)] 27 (0, 0)) (by (with_reducible repeat (first | refine blk_drewN ?_ _ | refine blk_drew ?_ | refine blk_alloc ?_ _)); exact BK119.out) hg (Kd.R_away HO_3.out (fun _ hk => hk.2.2.2.2))); have n7_ := Aside0.mk ((by rw [hw]; exact below_set (below_set (below_set (below_set (below_set (HB.out) GB22.out) GB22.out) GB22.out) GB22.out) GB22.out : Below w.heap.size w w31)); clear HO_3; clear HO_17; clear HO_114003; clear BK113; clear BK114; clear HL118_3; clear BK119; clear HB; clear HO125; have HO_3 := n0_; have HO_17 := n1_; have HO_114003 := n2_; have BK113 := n3_; have BK114 := n4_; have HL118_3 := n5_; have BK119 := n6_; have HB := n7_; clear n0_ n1_ n2_ n3_ n4_ n5_ n6_ n7_; clear hg hw hp_))
                    go_roundg k1
                    case measure => have := HK1.out; omega
                    case rel => exact ⟨(y127), (wrap64 (x19_1 + 1)), (x114000_1), (x114001_1), (x114002_1), (x114003_1), (x114004_1), (x115000_1), (x115001_1), (x115002_1), (x115004_1), (u114003), (by first | rfl | (simp; done) | (simp [*]; done)), H', ⟨by have := HK1.out; omega⟩, ⟨by (with_reducible repeat (first | apply Kd.R_alloc | apply Kd.R_drewN | apply Kd.R_drew)); exact Kd.R_mono HO_3.out (fun _ hk => ⟨hk.1, ⟨hk.2.1, hk.2.2.1⟩⟩)⟩, ⟨by (with_reducible repeat (first | apply Kd.V_alloc | apply Kd.V_drewN | apply Kd.V_drew)); exact Kd.V_mono HO_17.out (fun _ hk => ⟨hk.1.1, ⟨hk.2, ⟨hk.1.2.2.1, hk.1.2.2.2.1⟩⟩⟩)⟩, ⟨by (with_reducible repeat (first | apply Kd.V_alloc | apply Kd.V_drewN | apply Kd.V_drew)); exact Kd.V_mono HO_114003.out (fun _ hk => ⟨hk.1.1, ⟨hk.2, ⟨hk.1.2.2.1, hk.1.2.2.2.1⟩⟩⟩)⟩, ⟨by (with_reducible repeat (first | refine blk_drewN ?_ _ | refine blk_drew ?_ | refine blk_alloc ?_ _)); exact BK113.out⟩, ⟨by (with_reducible repeat (first | refine blk_drewN ?_ _ | refine blk_drew ?_ | refine blk_alloc ?_ _)); exact BK114.out⟩, ⟨by repeat (first | (with_reducible first | exact HB.out | apply below_alloc | apply pw_below_drewN | apply below_drew1 | refine below_set ?_ GE113.out | refine below_set ?_ GE114.out | refine below_set ?_ GE119.out) | exact HB.out)⟩⟩
                  · rw [if_neg c21] at H
                    exact absurd H (by simp)
                · rw [if_neg c19] at H
                  exact absurd H (by simp)
              · rw [if_neg c18] at H
                exact absurd H (by simp)
            · rw [if_neg c17] at H
              have c17b0 : decide (x19_1 < (l0_3.length : Int)) = false := decide_eq_false c17
              clear c17
              simp only [Option.some.injEq, Prod.mk.injEq] at H
              obtain ⟨rfl, rfl, rfl, rfl, rfl⟩ := H
              obtain ⟨Ao32, co32, eo32⟩ := Kd.R_slice HO_3.out
              subst eo32
              have hnb33 := NB113_114.out
              have hnc33 := NB114_113.out
              have hcz34_0 : wr.cell? ⟨gb113, 0, none⟩ = some (.int .u8 x114000_1) := (blk_cell BK113.out 0).trans rfl
              have hcz34_1 : wr.cell? ⟨gb113, 1, none⟩ = some (.int .i64 x114001_1) := (blk_cell BK113.out 1).trans rfl
              have hcz34_2 : wr.cell? ⟨gb113, 2, none⟩ = some (.string x114002_1) := (blk_cell BK113.out 2).trans rfl
              have hcz34_3 : wr.cell? ⟨gb113, 3, none⟩ = some (u114003) := (blk_cell BK113.out 3).trans rfl
              have hcz34_4 : wr.cell? ⟨gb113, 4, none⟩ = some (.int .i64 x114004_1) := (blk_cell BK113.out 4).trans rfl
              have hfz34_0 := blk_frozen BK113.out 0
              have hfz34_1 := blk_frozen BK113.out 1
              have hfz34_2 := blk_frozen BK113.out 2
              have hfz34_3 := blk_frozen BK113.out 3
              have hfz34_4 := blk_frozen BK113.out 4
              have hcz35_0 : wr.cell? ⟨gb114, 0, none⟩ = some (.int .u8 x115000_1) := (blk_cell BK114.out 0).trans rfl
              have hcz35_1 : wr.cell? ⟨gb114, 1, none⟩ = some (.int .i64 x115001_1) := (blk_cell BK114.out 1).trans rfl
              have hcz35_2 : wr.cell? ⟨gb114, 2, none⟩ = some (.string x115002_1) := (blk_cell BK114.out 2).trans rfl
              have hcz35_3 : wr.cell? ⟨gb114, 3, none⟩ = some (.slice none 0 0) := (blk_cell BK114.out 3).trans rfl
              have hcz35_4 : wr.cell? ⟨gb114, 4, none⟩ = some (.int .i64 x115004_1) := (blk_cell BK114.out 4).trans rfl
              have hfz35_0 := blk_frozen BK114.out 0
              have hfz35_1 := blk_frozen BK114.out 1
              have hfz35_2 := blk_frozen BK114.out 2
              have hfz35_3 := blk_frozen BK114.out 3
              have hfz35_4 := blk_frozen BK114.out 4
              go_wp2
              refine bodyPost_ret (results_cell_row rfl _ _ gb114 27 #[.int .u8 x114000_1, .int .i64 x114001_1, .string x114002_1, .slice Ao32 x3_1.length co32, .int .i64 x114004_1] (0, 0) _ rfl (by (with_reducible repeat (first | refine blk_drewN ?_ _ | refine blk_drew ?_ | refine blk_alloc ?_ _)); refine blk_put (cs := #[.int .u8 x114000_1, .int .i64 x114001_1, .string x114002_1, .slice Ao32 x3_1.length co32, .int .i64 x115004_1]) ?_ 4 _ rfl; (with_reducible repeat (first | refine blk_drewN ?_ _ | refine blk_drew ?_ | refine blk_alloc ?_ _)); refine blk_put (cs := #[.int .u8 x114000_1, .int .i64 x114001_1, .string x114002_1, .slice none 0 0, .int .i64 x115004_1]) ?_ 3 _ rfl; (with_reducible repeat (first | refine blk_drewN ?_ _ | refine blk_drew ?_ | refine blk_alloc ?_ _)); refine blk_put (cs := #[.int .u8 x114000_1, .int .i64 x114001_1, .string x115002_1, .slice none 0 0, .int .i64 x115004_1]) ?_ 2 _ rfl; (with_reducible repeat (first | refine blk_drewN ?_ _ | refine blk_drew ?_ | refine blk_alloc ?_ _)); refine blk_put (cs := #[.int .u8 x114000_1, .int .i64 x115001_1, .string x115002_1, .slice none 0 0, .int .i64 x115004_1]) ?_ 1 _ rfl; (with_reducible repeat (first | refine blk_drewN ?_ _ | refine blk_drew ?_ | refine blk_alloc ?_ _)); refine blk_put (cs := #[.int .u8 x115000_1, .int .i64 x115001_1, .string x115002_1, .slice none 0 0, .int .i64 x115004_1]) ?_ 0 _ rfl; (with_reducible repeat (first | refine blk_drewN ?_ _ | refine blk_drew ?_ | refine blk_alloc ?_ _)); refine blk_far ?_ NB114_113.out _; (with_reducible repeat (first | refine blk_drewN ?_ _ | refine blk_drew ?_ | refine blk_alloc ?_ _)); exact BK114.out) Try.underlying27 rfl (by kernel_rfl)) rfl ?_
              exact ⟨_, by first | rfl | (simp [errW_none, errW_some] <;> rfl) | (simp [*, errW_none, errW_some] <;> rfl), by (with_reducible repeat (first | apply Kd.R_alloc | apply Kd.R_drewN | apply Kd.R_drew)); exact Kd.R_mono (Kd.R_far (p := ⟨gb114, 4, none⟩) (Kd.R_far (p := ⟨gb114, 3, none⟩) (Kd.R_far (p := ⟨gb114, 2, none⟩) (Kd.R_far (p := ⟨gb114, 1, none⟩) (Kd.R_far (p := ⟨gb114, 0, none⟩) (Kd.R_far (p := ⟨gb113, 3, none⟩) (Kd.R_mono (Kd.R_mono HO_3.out (fun k_ hk => (⟨hk, hk.2.1⟩ : _ ∧ k_ ≠ gb113))) (fun k_ hk => (⟨hk, hk.1.2.2⟩ : _ ∧ k_ ≠ gb114))) (fun _ hk => hk.1.2) (.slice Ao32 x3_1.length co32)) (fun _ hk => hk.2) (.int .u8 x114000_1)) (fun _ hk => hk.2) (.int .i64 x114001_1)) (fun _ hk => hk.2) (.string x114002_1)) (fun _ hk => hk.2) (.slice Ao32 x3_1.length co32)) (fun _ hk => hk.2) (.int .i64 x114004_1)) (fun _ hk => hk.1.1.1), by repeat (first | (with_reducible first | exact HB.out | apply below_alloc | apply pw_below_drewN | apply below_drew1 | refine below_set ?_ GE113.out | refine below_set ?_ GE114.out) | exact HB.out)⟩
      · rw [if_neg c9] at H
        exact absurd H (by simp)
    · rw [if_neg c8] at H
      exact absurd H (by simp)
end Go.Proofs.Ythkemcekcfccpaa.PBrandCompares
end
section
namespace Go.Proofs.Ythkemcekcfccpaa.PBrandCompares
open Go.RowKit Go.Proofs.YthkemcekcfccpaaW.PrintWords Go.Proofs.YthkemcekcfccpaaW.PrintLast Go.Proofs.YthkemcekcfccpaaW.PrintMore
open Go.Proofs.Ythkemcekcfccpaa.GBrandCompares
set_option linter.unusedVariables false
set_option linter.unusedSimpArgs false
def Small : Nat → S27 → Prop
  | 0, x => x.f3 = []
  | n + 1, x => x.f3.length ≤ 511 ∧ ∀ y ∈ x.f3, Small n y
theorem small_nil {x : S27} (h : x.f3 = []) (n : Nat) : Small n x := by
  cases n with
  | zero => exact h
  | succ n => simp [Small, h]
theorem take_small (n : Nat) : (∀ x : S27, SizeOf.sizeOf x ≤ n → ∀ p d, 0 ≤ p → p ≤ 512 → 0 ≤ d → (takeV x p d).1 = true → Small d.toNat x) ∧
    (∀ l : List S27, SizeOf.sizeOf l ≤ n → ∀ p d, 0 ≤ p → p ≤ 512 → 0 ≤ d → (takeL l p d).1 = true → ∀ y ∈ l, Small d.toNat y) := by
  induction n with
  | zero =>
    refine ⟨fun x hx => ?_, fun l hl => ?_⟩
    · cases x; simp at hx
    · cases l <;> simp at hl
  | succ n ih =>
    refine ⟨fun x hx p d hp hp2 hd ht => ?_, fun l hl p d hp hp2 hd ht => ?_⟩
    · by_cases hz : p = 0
      · rw [takeV_z hz] at ht; simp at ht
      by_cases h3 : x.f0 = 3
      · rw [takeV_3 hz h3] at ht
        split at ht
        · simp at ht
        · rename_i hn
          have hd1 : 1 ≤ d := by omega
          obtain ⟨m, hm⟩ : ∃ m, d.toNat = m + 1 := ⟨d.toNat - 1, by omega⟩
          rw [hm]
          refine ⟨by omega, ?_⟩
          have hs : SizeOf.sizeOf x.f3 ≤ n := by cases x; simp at hx ⊢; omega
          have h := ih.2 x.f3 hs (p - 1) (d - 1) (by omega) (by omega) (by omega)
          rw [show (d - 1).toNat = m by omega] at h
          apply h
          generalize takeL x.f3 (p - 1) (d - 1) = t at ht
          obtain ⟨b, p', d'⟩ := t
          cases b
          · simp at ht
          · rfl
      · have hnil : x.f3 = [] := by
          by_cases h0 : x.f0 = 0
          · rw [takeV_0 hz h0] at ht; simp at ht; exact ht.2.2.2
          by_cases h1 : x.f0 = 1
          · rw [takeV_1 hz h1] at ht; simp at ht; exact ht.2.2
          by_cases h2 : x.f0 = 2
          · rw [takeV_2 hz h2] at ht
            split at ht
            · simp at ht
            · simp at ht; exact ht.2.2
          by_cases h4 : x.f0 = 4
          · rw [takeV_4 hz h4] at ht
            split at ht
            · simp at ht
            · simp at ht; exact ht.2.2
          rw [takeV_5 hz h0 h1 h2 h4 h3] at ht; simp at ht
        exact small_nil hnil _
    · cases l with
      | nil => simp
      | cons x l =>
        have hx : SizeOf.sizeOf x ≤ n := by simp at hl; omega
        have hl : SizeOf.sizeOf l ≤ n := by simp at hl; omega
        unfold takeL at ht
        have hb := takeV_bounds x hp hd
        have h1 := ih.1 x hx p d hp hp2 hd
        generalize takeV x p d = t at ht hb h1
        obtain ⟨b, p', d'⟩ := t
        cases b
        · simp at ht
        · dsimp only at ht hb h1
          have h5 := hb.2.2.2.2 rfl
          subst h5
          have h2 := ih.2 l hl p' d' hb.1 (by omega) hd ht
          intro y hy
          rcases List.mem_cons.1 hy with rfl | hy
          · exact h1 rfl
          · exact h2 y hy
theorem may_small {x : S27} (h : mayV x = true) : Small 16 x := by
  refine (take_small _).1 x (Nat.le_refl _) 512 16 (by omega) (by omega) (by omega) ?_
  simp only [mayV, measureV, decide_eq_true_eq] at h
  split at h
  · assumption
  · simp at h
theorem le_own {j k : Nat} (h : j ≤ k) {x : S27} {r : Int × Int × ByteArray × List S27 × Int} (hr : value_own.f j x.f0 x.f1 x.f2 x.f3 x.f4 = some r) : value_own.f k x.f0 x.f1 x.f2 x.f3 x.f4 = some r := by
  induction h with
  | refl => exact hr
  | step _ ih => exact value_own.mono _ _ _ _ _ _ _ ih
theorem own_loop (xs : List S27) (hlen : xs.length ≤ 511) (a b : Int) (s : ByteArray) (r : Int) (l0 : List S27) (K : Nat) (hK : ∀ y ∈ xs, value_own.f K y.f0 y.f1 y.f2 y.f3 y.f4 = some (y.f0, y.f1, y.f2, y.f3, y.f4)) :
    ∀ (m i : Nat) (ys : List S27), i + m = xs.length → ys.length = xs.length → ys.take i = xs.take i →
      value_own.l0 (K + m + 1) ys xs (xs.length : Int) (i : Int) a b s l0 r = some (a, b, s, xs, r) := by
  intro m
  induction m with
  | zero =>
    intro i ys hi hy ht
    unfold value_own.l0
    rw [if_neg (by omega)]
    have : ys = xs := by
      have h1 : ys.take i = ys := List.take_of_length_le (by omega)
      have h2 : xs.take i = xs := List.take_of_length_le (by omega)
      rw [← h1, ht, h2]
    rw [this]
  | succ m ih =>
    intro i ys hi hy ht
    have hlt : i < xs.length := by omega
    rw [show K + (m + 1) + 1 = (K + m + 1) + 1 by omega]
    unfold value_own.l0
    rw [if_pos (by omega), if_pos (by omega), if_pos (by omega)]
    have hm := rd_mem (xs := xs) (i := i) hlt
    rw [le_own (x := rd_T27 xs (i : Int)) (show K ≤ K + m + 1 by omega) (hK _ hm)]
    simp only [Option.bind_some]
    rw [if_pos (by omega)]
    rw [show wrap64 ((i : Int) + 1) = ((i + 1 : Nat) : Int) by simp only [wrap64]; omega]
    refine ih (i + 1) _ (by omega) (by simpa using hy) ?_
    rw [Int.toNat_natCast]
    apply List.ext_getElem?
    intro j
    rw [List.getElem?_take, List.getElem?_take]
    by_cases hj : j < i + 1
    · rw [if_pos hj, if_pos hj]
      by_cases hji : i = j
      · subst hji
        rw [List.getElem?_set_self (by omega)]
        unfold rd_T27
        rw [Int.toNat_natCast, List.getD_eq_getElem?_getD, List.getElem?_eq_getElem hlt, Option.getD_some]
        generalize xs[i] = q
        cases q
        rfl
      · rw [List.getElem?_set_ne hji]
        have := congrArg (fun l => l[j]?) ht
        simp only [List.getElem?_take] at this
        rw [if_pos (by omega), if_pos (by omega)] at this
        exact this
    · rw [if_neg hj, if_neg hj]
theorem own_pure (n : Nat) : ∃ K, ∀ x : S27, Small n x → value_own.f K x.f0 x.f1 x.f2 x.f3 x.f4 = some (x.f0, x.f1, x.f2, x.f3, x.f4) := by
  induction n with
  | zero =>
    refine ⟨1, fun x hx => ?_⟩
    simp only [Small] at hx
    unfold value_own.f
    rw [hx]
    rfl
  | succ n ih =>
    obtain ⟨K, hK⟩ := ih
    refine ⟨K + 511 + 2, fun x hx => ?_⟩
    obtain ⟨hl, hy⟩ := hx
    unfold value_own.f
    split
    · rename_i h0
      rw [show x.f3 = [] from List.length_eq_zero_iff.1 (by omega)]
    · rw [if_pos (by omega), if_pos (by omega)]
      have h := own_loop x.f3 hl x.f0 x.f1 x.f2 x.f4 x.f3 (K + (511 - x.f3.length)) (fun y hm => le_own (by omega) (hK y (hy y hm))) x.f3.length 0 (List.replicate ((x.f3.length : Int)).toNat z27) (by omega) (by simp) (by simp)
      rw [show K + 511 + 1 = K + (511 - x.f3.length) + x.f3.length + 1 by omega]
      exact h
end Go.Proofs.Ythkemcekcfccpaa.PBrandCompares
end
section
namespace Go.Proofs.Ythkemcekcfccpaa.PBrandCompares
open Go.RowKit Go.Proofs.YthkemcekcfccpaaW.PrintWords Go.Proofs.YthkemcekcfccpaaW.PrintLast Go.Proofs.YthkemcekcfccpaaW.PrintMore
open Go.Proofs.Ythkemcekcfccpaa.GBrandCompares
set_option linter.unusedVariables false
set_option linter.unusedSimpArgs false
theorem size27 : (Try.prog.info? 27).map (·.size) = some 5 := by kernel_rfl
theorem put27 {w : World} {g : Nat} {cs : Array Value} (h : w.heap[g]? = some (.cells cs 27 (0, 0))) (hs : cs.size = 5) (a b c d e : Value) :
    (((((w.setCell ⟨g, 0, none⟩ a).setCell ⟨g, 1, none⟩ b).setCell ⟨g, 2, none⟩ c).setCell ⟨g, 3, none⟩ d).setCell ⟨g, 4, none⟩ e).heap[g]? = some (.cells #[a, b, c, d, e] 27 (0, 0)) := by
  obtain ⟨l⟩ := cs
  match l, hs with
  | [_, _, _, _, _], _ => exact blk_put (blk_put (blk_put (blk_put (blk_put h 0 _ rfl) 1 _ rfl) 2 _ rfl) 3 _ rfl) 4 _ rfl
theorem ex_put27 {S : Nat → Prop} {w0 w : World} {g : Nat} (h : Ex S w0 w) (hg : S g ∨ w0.heap.size ≤ g) (a b c d e : Value) :
    Ex S w0 (((((w.setCell ⟨g, 0, none⟩ a).setCell ⟨g, 1, none⟩ b).setCell ⟨g, 2, none⟩ c).setCell ⟨g, 3, none⟩ d).setCell ⟨g, 4, none⟩ e) :=
  ((((h.set (p := ⟨g, 0, none⟩) hg a).set (p := ⟨g, 1, none⟩) hg b).set (p := ⟨g, 2, none⟩) hg c).set (p := ⟨g, 3, none⟩) hg d).set (p := ⟨g, 4, none⟩) hg e
def Owned (x : S27) (w : World) (v : Value) (w' : World) : Prop :=
  ∃ (A : Option Addr) (c : Nat), v = .agg #[.int .u8 x.f0, .int .i64 x.f1, .string x.f2, .slice A x.f3.length c, .int .i64 x.f4] ∧ x.f3.length ≤ c ∧ Kd.R k27 27 w' w.heap.size (fun k => w.heap.size ≤ k) (.slice A x.f3.length c) x.f3 ∧ Ex (fun _ => False) w w'
theorem vown_calls (x : S27) (A : Option Addr) (c : Nat) (w : World) (ok : Nat → Prop) (hc : x.f3.length ≤ c) (hF : Kd.F k27 w ok A x.f3.length x.f3) (hm : mayV x = true) :
    Calls Try.prog 56 #[.agg #[.int .u8 x.f0, .int .i64 x.f1, .string x.f2, .slice A x.f3.length c, .int .i64 x.f4]] w fun e w' => ∃ v, e = .returned v ∧ Owned x w v w' := by
  obtain ⟨K, hK⟩ := own_pure 16
  refine (value_own.calls K x.f0 x.f1 x.f2 ok A c x.f3 x.f4 _ _ _ _ _ w (Kd.V_mk hc hF) (hK x (may_small hm))).mono ?_
  rintro e w1 ⟨v3, rfl, hR, hB⟩
  obtain ⟨A3, c3, rfl, l3, _⟩ := Kd.R_reads hR
  exact ⟨_, rfl, A3, c3, rfl, l3, hR, Ex.of_below hB⟩
set_option maxHeartbeats 400000 in
theorem Own_calls (x : S27) (A : Option Addr) (c : Nat) (w : World) (ok : Nat → Prop) (hc : x.f3.length ≤ c) (hF : Kd.F k27 w ok A x.f3.length x.f3) (hm : mayV x = true) :
    Calls Try.prog 53 #[.agg #[.int .u8 x.f0, .int .i64 x.f1, .string x.f2, .slice A x.f3.length c, .int .i64 x.f4]] w fun e w' => ∃ v, e = .returned (.tuple #[v, .int .i64 0]) ∧ Owned x w v w' := by
  have HF := Aside0.mk hF
  have HM := Aside0.mk hm
  have HC := Aside0.mk hc
  clear hF hm hc
  go_enter Try.func53, Try.ntmps53
  go_wp2_with fail
  refine (may_calls x A c _ ok (Kd.F_alloc (Kd.F_alloc HF.out _) _)).mono ?_
  rintro e w1 ⟨rfl, hx1⟩
  have hm' := HM.out
  rw [hm']
  clear hm'
  obtain ⟨hc, hf⟩ := hx1.cells
  have HF1 := Aside0.mk (ex_F hx1 (Kd.F_alloc (Kd.F_alloc HF.out _) _) (fun _ _ h => h))
  have HB1 := Aside0.mk (hx1.blk (blk_new2 w _ _) (fun h => h))
  have HX1 := Aside0.mk ((((Ex.refl (fun _ => False) w).alloc _).alloc _).trans hx1 (fun _ h => h.elim))
  clear hx1
  go_wp2_with fail
  refine (vown_calls x A c _ ok HC.out HF1.out HM.out).mono ?_
  rintro e w2 ⟨v, rfl, A3, c3, rfl, l3, hR, hx2⟩
  have HB2 := Aside0.mk (hx2.blk HB1.out (fun h => h))
  have h0 := (blk_cell HB2.out 0).trans rfl
  have h1 := (blk_cell HB2.out 1).trans rfl
  have h2 := (blk_cell HB2.out 2).trans rfl
  have h3 := (blk_cell HB2.out 3).trans rfl
  have h4 := (blk_cell HB2.out 4).trans rfl
  have f0 := blk_frozen HB2.out 0
  have f1 := blk_frozen HB2.out 1
  have f2 := blk_frozen HB2.out 2
  have f3 := blk_frozen HB2.out 3
  have f4 := blk_frozen HB2.out 4
  have hl2 := lt_of_blk HB2.out
  have HH := Aside0.mk (And.intro l3 (And.intro hR (HX1.out.trans hx2 (fun _ h => h.elim))))
  clear l3 hR hx2 hc hf
  go_wp2_with fail
  refine bodyPost_ret (results_row_tmp rfl _ _ (w.heap.size + 1) 27 _ (0, 0) _ rfl (put27 HB2.out rfl _ _ _ _ _) Try.underlying27 rfl size27) rfl ?_
  refine ⟨_, rfl, A3, c3, rfl, HH.out.1, ?_, ?_⟩
  · have hR := Kd.R_lower (Kd.R_mono (Kd.R_bound HH.out.2.1) (fun k hk => (show w.heap.size ≤ k ∧ k ≠ w.heap.size + 1 by have := hk.1; have := HX1.out.size; have := lt_of_blk HB1.out; omega))) HX1.out.size
    refine Kd.R_mono (Kd.R_step hR ?_) (fun k hk => hk.1)
    intro k hk hlt
    exact (ex_put27 (Ex.refl (fun b => b = w.heap.size + 1) _) (.inl rfl) _ _ _ _ _).block k hlt hk.2
  · exact ex_put27 HH.out.2.2 (.inr (Nat.le_succ _)) _ _ _ _ _
set_option maxHeartbeats 400000 in
theorem own_calls (x : S27) (A : Option Addr) (c : Nat) (w : World) (ok : Nat → Prop) (hc : x.f3.length ≤ c) (hF : Kd.F k27 w ok A x.f3.length x.f3) (hm : mayV x = true) :
    Calls Try.prog 40 #[.agg #[.int .u8 x.f0, .int .i64 x.f1, .string x.f2, .slice A x.f3.length c, .int .i64 x.f4]] w fun e w' => ∃ v, e = .returned v ∧ Owned x w v w' := by
  have HF := Aside0.mk hF
  have HM := Aside0.mk hm
  have HC := Aside0.mk hc
  clear hF hm hc
  go_enter Try.func40, Try.ntmps40
  go_wp2_with fail
  refine (Own_calls x A c _ ok HC.out (Kd.F_alloc (Kd.F_alloc HF.out _) _) HM.out).mono ?_
  rintro e w1 ⟨v, rfl, A3, c3, rfl, l3, hR, hx1⟩
  have HB1 := Aside0.mk (hx1.blk (blk_new2 w _ _) (fun h => h))
  have HX1 := Aside0.mk ((((Ex.refl (fun _ => False) w).alloc _).alloc _).trans hx1 (fun _ h => h.elim))
  have h0 := (blk_cell HB1.out 0).trans rfl
  have h1 := (blk_cell HB1.out 1).trans rfl
  have h2 := (blk_cell HB1.out 2).trans rfl
  have h3 := (blk_cell HB1.out 3).trans rfl
  have h4 := (blk_cell HB1.out 4).trans rfl
  have f0 := blk_frozen HB1.out 0
  have f1 := blk_frozen HB1.out 1
  have f2 := blk_frozen HB1.out 2
  have f3 := blk_frozen HB1.out 3
  have f4 := blk_frozen HB1.out 4
  have hl1 := lt_of_blk HB1.out
  have HH := Aside0.mk (And.intro l3 hR)
  clear l3 hR hx1
  go_wp2_with fail
  refine bodyPost_ret (results_cell_row rfl _ _ (w.heap.size + 1) 27 _ (0, 0) _ rfl (blk_alloc (put27 HB1.out rfl _ _ _ _ _) _) Try.underlying27 rfl size27) rfl ?_
  refine ⟨_, rfl, A3, c3, rfl, HH.out.1, ?_, ?_⟩
  · have hR := Kd.R_lower (Kd.R_mono (Kd.R_bound HH.out.2) (fun k hk => (show w.heap.size ≤ k ∧ k ≠ w.heap.size + 1 by have := hk.1; simp at this; omega))) (show w.heap.size ≤ _ by simp; omega)
    refine Kd.R_mono (Kd.R_step hR ?_) (fun k hk => hk.1)
    intro k hk hlt
    exact ((ex_put27 (Ex.refl (fun b => b = w.heap.size + 1) _) (.inl rfl) _ _ _ _ _).alloc _).block k hlt hk.2
  · exact (ex_put27 HX1.out (.inr (Nat.le_succ _)) _ _ _ _ _).alloc _
end Go.Proofs.Ythkemcekcfccpaa.PBrandCompares
end
section
namespace Go.Proofs.Ythkemcekcfccpaa.PBrandCompares
open Go.RowKit Go.Proofs.YthkemcekcfccpaaW.PrintWords Go.Proofs.YthkemcekcfccpaaW.PrintLast Go.Proofs.YthkemcekcfccpaaW.PrintMore
open Go.Proofs.Ythkemcekcfccpaa.GBrandCompares
set_option linter.unusedVariables false
set_option linter.unusedSimpArgs false
structure Row where
  m : Mk
  k : S27
  v : S27
  A : Option Addr
  ca : Nat
  B : Option Addr
  cb : Nat
  n : Nat
  b1 : Nat
  b2 : Nat
def Row.val (r : Row) : Value := .agg #[.int .u8 r.k.f0, .int .i64 r.k.f1, .string r.k.f2, .slice r.A r.k.f3.length r.ca, .int .i64 r.k.f4, .int .u8 r.v.f0, .int .i64 r.v.f1, .string r.v.f2, .slice r.B r.v.f3.length r.cb, .int .i64 r.v.f4, .int .i64 r.n]
def Row.e1 (r : Row) : MapEntry := { key := r.m.val, val := r.val, born := r.b1 }
def Row.e2 (r : Row) : MapEntry := { key := .int .i64 r.n, val := r.m.val, born := r.b2 }
structure Row.Good (w : World) (T : Nat → Prop) (r : Row) : Prop where
  mark : MarkOf r.k r.m
  key : Key r.m
  mayk : mayV r.k = true
  mayv : mayV r.v = true
  lk : r.k.f3.length ≤ r.ca
  lv : r.v.f3.length ≤ r.cb
  fk : Kd.F k27 w T r.A r.k.f3.length r.k.f3
  fv : Kd.F k27 w T r.B r.v.f3.length r.v.f3
structure Tab (w : World) (g mb ob : Nat) (T : Nat → Prop) (rows : List Row) (came : Nat) : Prop where
  hg : w.heap[g]? = some (.cells #[.map (some mb), .map (some ob), .int .i64 came] 66 (0, 0))
  hm : ∃ es c, w.heap[mb]? = some (.map es c) ∧ es.toList = rows.map Row.e1
  ho : ∃ es c, w.heap[ob]? = some (.map es c) ∧ es.toList = rows.map Row.e2
  good : ∀ r ∈ rows, r.Good w (fun b => T b ∧ b ≠ g ∧ b ≠ mb ∧ b ≠ ob)
  tg : T g
  tm : T mb
  tb : T ob
  ne : mb ≠ ob
  nums : ∀ r ∈ rows, 1 ≤ r.n ∧ r.n ≤ came
  marks : rows.Pairwise (fun r s => r.m ≠ s.m)
  cames : rows.Pairwise (fun r s => r.n ≠ s.n)
  stamps : rows.Pairwise (fun r s => r.b1 ≠ s.b1)
  clock : ∀ es c, w.heap[mb]? = some (.map es c) → ∀ r ∈ rows, r.b1 < c
theorem Row.Good.ex {S T : Nat → Prop} {w w1 : World} {r : Row} (h : r.Good w T) (hx : Ex S w w1) (hs : ∀ b, T b → ¬ S b) : r.Good w1 T :=
  { h with fk := ex_F hx h.fk hs, fv := ex_F hx h.fv hs }
theorem Row.Good.mono {T T' : Nat → Prop} {w : World} {r : Row} (h : r.Good w T) (ht : ∀ b, T b → T' b) : r.Good w T' :=
  { h with fk := Kd.F_mono h.fk ht, fv := Kd.F_mono h.fv ht }
theorem Tab.ex {S T : Nat → Prop} {w w1 : World} {g mb ob : Nat} {rows : List Row} {came : Nat} (h : Tab w g mb ob T rows came) (hx : Ex S w w1) (hs : ∀ b, T b → ¬ S b) : Tab w1 g mb ob T rows came :=
  { h with
    hg := hx.blk h.hg (hs _ h.tg)
    hm := let ⟨es, c, h1, h2⟩ := h.hm; ⟨es, c, hx.blk h1 (hs _ h.tm), h2⟩
    ho := let ⟨es, c, h1, h2⟩ := h.ho; ⟨es, c, hx.blk h1 (hs _ h.tb), h2⟩
    good := fun r hr => (h.good r hr).ex hx (fun b hb => hs b hb.1)
    clock := fun es c hb => h.clock es c (let ⟨_, _, h1, _⟩ := h.hm; (hx.block _ (lt_of_blk h1) (hs _ h.tm)).symm.trans hb) }
theorem Tab.ex0 {T : Nat → Prop} {w w1 : World} {g mb ob : Nat} {rows : List Row} {came : Nat} (h : Tab w g mb ob T rows came) (hx : Ex (fun _ => False) w w1) : Tab w1 g mb ob T rows came := h.ex hx (fun _ _ h => h)
theorem Tab.mono {T T' : Nat → Prop} {w : World} {g mb ob : Nat} {rows : List Row} {came : Nat} (h : Tab w g mb ob T rows came) (ht : ∀ b, T b → T' b) : Tab w g mb ob T' rows came :=
  { h with tg := ht _ h.tg, tm := ht _ h.tm, tb := ht _ h.tb, good := fun r hr => (h.good r hr).mono (fun b hb => ⟨ht b hb.1, hb.2⟩) }
theorem Tab.keys_map {T : Nat → Prop} {w : World} {g mb ob : Nat} {rows : List Row} {came : Nat} (h : Tab w g mb ob T rows came) {es : Array MapEntry} (he : es.toList = rows.map Row.e1) : es.toList.map (·.key) = (rows.map (·.m)).map Mk.val := by
  rw [he]; simp [Row.e1]
theorem Tab.key_all {T : Nat → Prop} {w : World} {g mb ob : Nat} {rows : List Row} {came : Nat} (h : Tab w g mb ob T rows came) : ∀ m ∈ rows.map (·.m), Key m := by
  intro m hm
  obtain ⟨r, hr, rfl⟩ := List.mem_map.1 hm
  exact (h.good r hr).key
def zrow : Row := ⟨.nothing, z27, z27, none, 0, none, 0, 0, 0, 0⟩
theorem info78 : (Try.prog.info? 78).map (fun i => (i.zero, i.size, i.bytes)) = some (some zrow.val, 11, 136) := by kernel_rfl
theorem put78 {w : World} {g : Nat} {x0 x1 x2 x3 x4 x5 x6 x7 x8 x9 x10 : Value} (h : w.heap[g]? = some (.cells #[x0, x1, x2, x3, x4, x5, x6, x7, x8, x9, x10] 78 (0, 0))) (a0 a1 a2 a3 a4 a5 a6 a7 a8 a9 a10 : Value) : (((((((((((w.setCell ⟨g, 0, none⟩ a0).setCell ⟨g, 1, none⟩ a1).setCell ⟨g, 2, none⟩ a2).setCell ⟨g, 3, none⟩ a3).setCell ⟨g, 4, none⟩ a4).setCell ⟨g, 5, none⟩ a5).setCell ⟨g, 6, none⟩ a6).setCell ⟨g, 7, none⟩ a7).setCell ⟨g, 8, none⟩ a8).setCell ⟨g, 9, none⟩ a9).setCell ⟨g, 10, none⟩ a10).heap[g]? = some (.cells #[a0, a1, a2, a3, a4, a5, a6, a7, a8, a9, a10] 78 (0, 0)) := by
  have h0 : (w.setCell ⟨g, 0, none⟩ a0).heap[g]? = some (.cells #[a0, x1, x2, x3, x4, x5, x6, x7, x8, x9, x10] 78 (0, 0)) := blk_put h 0 _ rfl
  have h1 : ((w.setCell ⟨g, 0, none⟩ a0).setCell ⟨g, 1, none⟩ a1).heap[g]? = some (.cells #[a0, a1, x2, x3, x4, x5, x6, x7, x8, x9, x10] 78 (0, 0)) := blk_put h0 1 _ rfl
  have h2 : (((w.setCell ⟨g, 0, none⟩ a0).setCell ⟨g, 1, none⟩ a1).setCell ⟨g, 2, none⟩ a2).heap[g]? = some (.cells #[a0, a1, a2, x3, x4, x5, x6, x7, x8, x9, x10] 78 (0, 0)) := blk_put h1 2 _ rfl
  have h3 : ((((w.setCell ⟨g, 0, none⟩ a0).setCell ⟨g, 1, none⟩ a1).setCell ⟨g, 2, none⟩ a2).setCell ⟨g, 3, none⟩ a3).heap[g]? = some (.cells #[a0, a1, a2, a3, x4, x5, x6, x7, x8, x9, x10] 78 (0, 0)) := blk_put h2 3 _ rfl
  have h4 : (((((w.setCell ⟨g, 0, none⟩ a0).setCell ⟨g, 1, none⟩ a1).setCell ⟨g, 2, none⟩ a2).setCell ⟨g, 3, none⟩ a3).setCell ⟨g, 4, none⟩ a4).heap[g]? = some (.cells #[a0, a1, a2, a3, a4, x5, x6, x7, x8, x9, x10] 78 (0, 0)) := blk_put h3 4 _ rfl
  have h5 : ((((((w.setCell ⟨g, 0, none⟩ a0).setCell ⟨g, 1, none⟩ a1).setCell ⟨g, 2, none⟩ a2).setCell ⟨g, 3, none⟩ a3).setCell ⟨g, 4, none⟩ a4).setCell ⟨g, 5, none⟩ a5).heap[g]? = some (.cells #[a0, a1, a2, a3, a4, a5, x6, x7, x8, x9, x10] 78 (0, 0)) := blk_put h4 5 _ rfl
  have h6 : (((((((w.setCell ⟨g, 0, none⟩ a0).setCell ⟨g, 1, none⟩ a1).setCell ⟨g, 2, none⟩ a2).setCell ⟨g, 3, none⟩ a3).setCell ⟨g, 4, none⟩ a4).setCell ⟨g, 5, none⟩ a5).setCell ⟨g, 6, none⟩ a6).heap[g]? = some (.cells #[a0, a1, a2, a3, a4, a5, a6, x7, x8, x9, x10] 78 (0, 0)) := blk_put h5 6 _ rfl
  have h7 : ((((((((w.setCell ⟨g, 0, none⟩ a0).setCell ⟨g, 1, none⟩ a1).setCell ⟨g, 2, none⟩ a2).setCell ⟨g, 3, none⟩ a3).setCell ⟨g, 4, none⟩ a4).setCell ⟨g, 5, none⟩ a5).setCell ⟨g, 6, none⟩ a6).setCell ⟨g, 7, none⟩ a7).heap[g]? = some (.cells #[a0, a1, a2, a3, a4, a5, a6, a7, x8, x9, x10] 78 (0, 0)) := blk_put h6 7 _ rfl
  have h8 : (((((((((w.setCell ⟨g, 0, none⟩ a0).setCell ⟨g, 1, none⟩ a1).setCell ⟨g, 2, none⟩ a2).setCell ⟨g, 3, none⟩ a3).setCell ⟨g, 4, none⟩ a4).setCell ⟨g, 5, none⟩ a5).setCell ⟨g, 6, none⟩ a6).setCell ⟨g, 7, none⟩ a7).setCell ⟨g, 8, none⟩ a8).heap[g]? = some (.cells #[a0, a1, a2, a3, a4, a5, a6, a7, a8, x9, x10] 78 (0, 0)) := blk_put h7 8 _ rfl
  have h9 : ((((((((((w.setCell ⟨g, 0, none⟩ a0).setCell ⟨g, 1, none⟩ a1).setCell ⟨g, 2, none⟩ a2).setCell ⟨g, 3, none⟩ a3).setCell ⟨g, 4, none⟩ a4).setCell ⟨g, 5, none⟩ a5).setCell ⟨g, 6, none⟩ a6).setCell ⟨g, 7, none⟩ a7).setCell ⟨g, 8, none⟩ a8).setCell ⟨g, 9, none⟩ a9).heap[g]? = some (.cells #[a0, a1, a2, a3, a4, a5, a6, a7, a8, a9, x10] 78 (0, 0)) := blk_put h8 9 _ rfl
  have h10 : (((((((((((w.setCell ⟨g, 0, none⟩ a0).setCell ⟨g, 1, none⟩ a1).setCell ⟨g, 2, none⟩ a2).setCell ⟨g, 3, none⟩ a3).setCell ⟨g, 4, none⟩ a4).setCell ⟨g, 5, none⟩ a5).setCell ⟨g, 6, none⟩ a6).setCell ⟨g, 7, none⟩ a7).setCell ⟨g, 8, none⟩ a8).setCell ⟨g, 9, none⟩ a9).setCell ⟨g, 10, none⟩ a10).heap[g]? = some (.cells #[a0, a1, a2, a3, a4, a5, a6, a7, a8, a9, a10] 78 (0, 0)) := blk_put h9 10 _ rfl
  exact h10
theorem ex_put78 {S : Nat → Prop} {w0 w : World} {g : Nat} (h : Ex S w0 w) (hg : S g ∨ w0.heap.size ≤ g) (a0 a1 a2 a3 a4 a5 a6 a7 a8 a9 a10 : Value) : Ex S w0 (((((((((((w.setCell ⟨g, 0, none⟩ a0).setCell ⟨g, 1, none⟩ a1).setCell ⟨g, 2, none⟩ a2).setCell ⟨g, 3, none⟩ a3).setCell ⟨g, 4, none⟩ a4).setCell ⟨g, 5, none⟩ a5).setCell ⟨g, 6, none⟩ a6).setCell ⟨g, 7, none⟩ a7).setCell ⟨g, 8, none⟩ a8).setCell ⟨g, 9, none⟩ a9).setCell ⟨g, 10, none⟩ a10) :=
  (((((((((((h.set (p := ⟨g, 0, none⟩) hg a0).set (p := ⟨g, 1, none⟩) hg a1).set (p := ⟨g, 2, none⟩) hg a2).set (p := ⟨g, 3, none⟩) hg a3).set (p := ⟨g, 4, none⟩) hg a4).set (p := ⟨g, 5, none⟩) hg a5).set (p := ⟨g, 6, none⟩) hg a6).set (p := ⟨g, 7, none⟩) hg a7).set (p := ⟨g, 8, none⟩) hg a8).set (p := ⟨g, 9, none⟩) hg a9).set (p := ⟨g, 10, none⟩) hg a10)
theorem find_order (k : Int) : ∀ (l : List MapEntry) (i : Nat), (∀ e ∈ l, ∃ n : Int, e.key = .int .i64 n ∧ n ≠ k) → Instr.findNow (.int .i64) (.int .i64 k) l i = some none
  | [], _, _ => rfl
  | e :: l, i, h => by
    obtain ⟨n, he, hn⟩ := h e (.head _)
    unfold Instr.findNow
    rw [he]
    simp only [Instr.sameNow, if_true]
    rw [show ((k == n) : Bool) = false by simpa using Ne.symm hn]
    exact find_order k l (i + 1) (fun e he => h e (.tail _ he))
theorem run_order {w : World} {r clock : Nat} {es : Array MapEntry} {rows : List Row} {came : Nat} (hb : w.heap[r]? = some (.map es clock)) (hes : es.toList = rows.map Row.e2) (hn : ∀ r ∈ rows, 1 ≤ r.n ∧ r.n ≤ came) (v : Value) :
    (Instr.mapUpdate 64 (.map (some r)) (.int .i64 ((came : Int) + 1)) v).run Try.prog w = .ok () (setB w r (.map (es.push { key := .int .i64 ((came : Int) + 1), val := v, born := clock }) (clock + 1))) := by
  unfold Instr.mapUpdate
  rw [Sem.run_bind, run_underlying Try.underlying64, Result.andThen_ok]
  have hc : (Instr.checkKey false 10000 3 (.int .i64 ((came : Int) + 1))).run Try.prog w = .ok () w := check_int Try.underlying3 false 9999 _ w
  have hf : (Instr.findKey 3 (.int .i64 ((came : Int) + 1)) es.toList).run Try.prog w = .ok none w := Go.MapKept.run_findKey Try.underlying3 (find_order _ _ _ (by
    rw [hes]
    intro e he
    obtain ⟨r, hr, rfl⟩ := List.mem_map.1 he
    exact ⟨r.n, rfl, by have := hn r hr; omega⟩))
  simp only [Sem.run_bind, Go.MapKept.run_getObj_map hb, Result.andThen_ok, Sem.run_pure, hc, hf]
  exact Go.MapKept.run_setObj_map _ hb
theorem put78v {w : World} {g : Nat} {x0 x1 x2 x3 x4 x5 x6 x7 x8 x9 x10 : Value} (h : w.heap[g]? = some (.cells #[x0, x1, x2, x3, x4, x5, x6, x7, x8, x9, x10] 78 (0, 0))) (a5 a6 a7 a8 a9 : Value) : (((((w.setCell ⟨g, 5, none⟩ a5).setCell ⟨g, 6, none⟩ a6).setCell ⟨g, 7, none⟩ a7).setCell ⟨g, 8, none⟩ a8).setCell ⟨g, 9, none⟩ a9).heap[g]? = some (.cells #[x0, x1, x2, x3, x4, a5, a6, a7, a8, a9, x10] 78 (0, 0)) := by
  have h5 : (w.setCell ⟨g, 5, none⟩ a5).heap[g]? = some (.cells #[x0, x1, x2, x3, x4, a5, x6, x7, x8, x9, x10] 78 (0, 0)) := blk_put h 5 _ rfl
  have h6 : ((w.setCell ⟨g, 5, none⟩ a5).setCell ⟨g, 6, none⟩ a6).heap[g]? = some (.cells #[x0, x1, x2, x3, x4, a5, a6, x7, x8, x9, x10] 78 (0, 0)) := blk_put h5 6 _ rfl
  have h7 : (((w.setCell ⟨g, 5, none⟩ a5).setCell ⟨g, 6, none⟩ a6).setCell ⟨g, 7, none⟩ a7).heap[g]? = some (.cells #[x0, x1, x2, x3, x4, a5, a6, a7, x8, x9, x10] 78 (0, 0)) := blk_put h6 7 _ rfl
  have h8 : ((((w.setCell ⟨g, 5, none⟩ a5).setCell ⟨g, 6, none⟩ a6).setCell ⟨g, 7, none⟩ a7).setCell ⟨g, 8, none⟩ a8).heap[g]? = some (.cells #[x0, x1, x2, x3, x4, a5, a6, a7, a8, x9, x10] 78 (0, 0)) := blk_put h7 8 _ rfl
  have h9 : (((((w.setCell ⟨g, 5, none⟩ a5).setCell ⟨g, 6, none⟩ a6).setCell ⟨g, 7, none⟩ a7).setCell ⟨g, 8, none⟩ a8).setCell ⟨g, 9, none⟩ a9).heap[g]? = some (.cells #[x0, x1, x2, x3, x4, a5, a6, a7, a8, a9, x10] 78 (0, 0)) := blk_put h8 9 _ rfl
  exact h9
theorem ex_put78v {S : Nat → Prop} {w0 w : World} {g : Nat} (h : Ex S w0 w) (hg : S g ∨ w0.heap.size ≤ g) (a5 a6 a7 a8 a9 : Value) : Ex S w0 (((((w.setCell ⟨g, 5, none⟩ a5).setCell ⟨g, 6, none⟩ a6).setCell ⟨g, 7, none⟩ a7).setCell ⟨g, 8, none⟩ a8).setCell ⟨g, 9, none⟩ a9) :=
  (((((h.set (p := ⟨g, 5, none⟩) hg a5).set (p := ⟨g, 6, none⟩) hg a6).set (p := ⟨g, 7, none⟩) hg a7).set (p := ⟨g, 8, none⟩) hg a8).set (p := ⟨g, 9, none⟩) hg a9)
theorem posMk_none {a : Mk} {ms : List Mk} (ha : a.keys = true) (h : posMk a ms = none) : ∀ m ∈ ms, m ≠ a := by
  rintro m hm rfl
  unfold posMk at h
  have := List.findIdx?_eq_none_iff.1 h m hm
  rcases cmp_keys m m ha ha with ⟨h1, _⟩ | ⟨_, h1⟩
  · rw [h1] at this; simp at this
  · exact h1 rfl
theorem R_F {w : World} {base c : Nat} {ok : Nat → Prop} {A : Option Addr} {xs : List S27} (h : Kd.R k27 27 w base ok (.slice A xs.length c) xs) : Kd.F k27 w ok A xs.length xs := Kd.V_F (Kd.R_V (base' := 0) h)
theorem run_new {w : World} {r clock : Nat} {es : Array MapEntry} {ms : List Mk} {a : Mk} (hb : w.heap[r]? = some (.map es clock)) (ha : Key a) (hm : ∀ m ∈ ms, Key m) (hl : es.toList.map (·.key) = ms.map Mk.val) (hp : posMk a ms = none) (v : Value) :
    (Instr.mapUpdate 63 (.map (some r)) a.val v).run Try.prog w = .ok () (setB w r (.map (es.push { key := a.val, val := v, born := clock }) (clock + 1))) := by
  have h := run_put 63 78 Try.underlying63 hb ha hm hl v
  rw [hp] at h
  exact h
theorem run_old {w : World} {r clock : Nat} {es : Array MapEntry} {ms : List Mk} {a : Mk} {j : Nat} (hb : w.heap[r]? = some (.map es clock)) (ha : Key a) (hm : ∀ m ∈ ms, Key m) (hl : es.toList.map (·.key) = ms.map Mk.val) (hp : posMk a ms = some j) (v : Value) :
    (Instr.mapUpdate 63 (.map (some r)) a.val v).run Try.prog w = .ok () (setB w r (.map (es.modify j fun e => { e with key := a.val, val := v }) clock)) := by
  have h := run_put 63 78 Try.underlying63 hb ha hm hl v
  rw [hp] at h
  exact h
end Go.Proofs.Ythkemcekcfccpaa.PBrandCompares
end
section
namespace Go.Proofs.Ythkemcekcfccpaa.PBrandCompares
open Go.RowKit Go.Proofs.YthkemcekcfccpaaW.PrintWords Go.Proofs.YthkemcekcfccpaaW.PrintLast Go.Proofs.YthkemcekcfccpaaW.PrintMore
open Go.Proofs.Ythkemcekcfccpaa.GBrandCompares
set_option linter.unusedVariables false
set_option linter.unusedSimpArgs false
theorem put_new_end {x y : S27} {g mb ob : Nat} {T : Nat → Prop} {rows : List Row} {came : Nat} {m : Mk} {w w3 w4 w6 w7 w9 w10 w11 w12 : World} {A1 B1 : Option Addr} {c1 d1 n8 cl cl2 : Nat} {es es2 : Array MapEntry} {t1 : TypeId} {u1 : Value} {cs : Array Value}
    (HT : Tab w g mb ob T rows came) (HX3 : Ex (fun _ => False) w w3) (HX4 : Ex (fun b => b = g) w3 w4) (h34 : w3.heap.size < w4.heap.size) (HX46 : Ex (fun b => b = w3.heap.size) w4 w6) (HX67 : Ex (fun b => b = ob) w6 w7)
    (HX79 : Ex (fun b => b = w.heap.size + 1 + 1) w7 w9) (HX910 : Ex (fun b => b = w3.heap.size) w9 w10) (HX1011 : Ex (fun b => b = mb) w10 w11) (HX1112 : Ex (fun b => b = w.heap.size + 1 + 1) w11 w12) (hb : w.heap.size + 1 + 1 < w3.heap.size)
    (HG11 : w11.heap[g]? = some (.cells cs 66 (0, 0))) (hcs : cs = #[.map (some mb), .map (some ob), .int .i64 ((came : Int) + 1)])
    (HMB11 : w11.heap[mb]? = some (.map (es.push { key := .iface t1 u1, val := .agg #[.int .u8 x.f0, .int .i64 x.f1, .string x.f2, .slice A1 x.f3.length c1, .int .i64 x.f4, .int .u8 y.f0, .int .i64 y.f1, .string y.f2, .slice B1 y.f3.length d1, .int .i64 y.f4, .int .i64 ((came : Int) + 1)], born := cl }) (cl + 1)))
    (HOB11 : w11.heap[ob]? = some (.map (es2.push { key := .int .i64 ((came : Int) + 1), val := .iface t1 u1, born := cl2 }) (cl2 + 1)))
    (HES : es.toList = rows.map Row.e1) (HES2 : es2.toList = rows.map Row.e2) (HU : m.val = .iface t1 u1) (H1 : MarkOf x m) (HKEY : Key m) (HP : posMk m (rows.map (·.m)) = none) (HM : mayV x = true) (HN : mayV y = true) (HL1 : x.f3.length ≤ c1) (HL2 : y.f3.length ≤ d1)
    (HR9 : Kd.R k27 27 w9 w4.drew.heap.size (fun b => w4.heap.size ≤ b) (.slice A1 x.f3.length c1) x.f3) (HR29 : Kd.R k27 27 w9 n8 (fun b => n8 ≤ b) (.slice B1 y.f3.length d1) y.f3) (h8 : w7.heap.size ≤ n8) (HMB3 : w3.heap[mb]? = some (.map es cl)) :
    Ex (fun b => b = g ∨ b = mb ∨ b = ob) w w12 ∧ ∃ r : Row, r.m = m ∧ r.k = x ∧ r.v = y ∧ r.n = came + 1 ∧ Tab w12 g mb ob (fun b => T b ∨ w.heap.size ≤ b) (rows ++ [r]) (came + 1) := by
  have hg : g < w.heap.size := lt_of_blk HT.hg
  have hmb : mb < w.heap.size := let ⟨_, _, h, _⟩ := HT.hm; lt_of_blk h
  have hob : ob < w.heap.size := let ⟨_, _, h, _⟩ := HT.ho; lt_of_blk h
  have h3 := HX3.size
  have h4 := HX4.size
  have h6 := HX46.size
  have h7 := HX67.size
  have h9 := HX79.size
  have h10 := HX910.size
  have h11 := HX1011.size
  have X4 : Ex (fun b => b = g ∨ b = mb ∨ b = ob) w w4 := (HX3.mono (fun _ h => h.elim)).trans HX4 (fun b hb => .inl (.inl hb))
  have X6 := X4.trans HX46 (fun b hb => .inr (by rw [hb]; exact h3))
  have X7 := X6.trans HX67 (fun b hb => .inl (.inr (.inr hb)))
  have X9 := X7.trans HX79 (fun b hb => .inr (by omega))
  have X10 := X9.trans HX910 (fun b hb => .inr (by omega))
  have X11 := X10.trans HX1011 (fun b hb => .inl (.inr (.inl hb)))
  have X12 := X11.trans HX1112 (fun b hb => .inr (by omega))
  have X912 : Ex (fun b => b = w3.heap.size ∨ b = mb ∨ b = w.heap.size + 1 + 1) w9 w12 := ((HX910.mono (fun _ h => .inl h)).trans HX1011 (fun b hb => .inl (.inr (.inl hb)))).trans HX1112 (fun b hb => .inl (.inr (.inr hb)))
  have hgm : g ≠ mb := by
    rintro rfl
    obtain ⟨_, _, h, _⟩ := HT.hm
    exact absurd (h.symm.trans HT.hg) (by simp)
  have hgo : g ≠ ob := by
    rintro rfl
    obtain ⟨_, _, h, _⟩ := HT.ho
    exact absurd (h.symm.trans HT.hg) (by simp)
  have hR1 : Kd.F k27 w12 (fun b => (T b ∨ w.heap.size ≤ b) ∧ b ≠ g ∧ b ≠ mb ∧ b ≠ ob) A1 x.f3.length x.f3 :=
    Kd.F_mono (ex_F X912 (R_F HR9) (fun b hb => by omega)) (fun b hb => ⟨.inr (by omega), by omega, by omega, by omega⟩)
  have hR2 : Kd.F k27 w12 (fun b => (T b ∨ w.heap.size ≤ b) ∧ b ≠ g ∧ b ≠ mb ∧ b ≠ ob) B1 y.f3.length y.f3 :=
    Kd.F_mono (ex_F X912 (R_F HR29) (fun b hb => by omega)) (fun b hb => ⟨.inr (by omega), by omega, by omega, by omega⟩)
  refine ⟨X12, ⟨m, x, y, A1, c1, B1, d1, came + 1, cl, cl2⟩, rfl, rfl, rfl, rfl, ?_⟩
  have hcast : (((came + 1 : Nat)) : Int) = (came : Int) + 1 := by omega
  refine { hg := ?_, hm := ?_, ho := ?_, good := ?_, tg := .inl HT.tg, tm := .inl HT.tm, tb := .inl HT.tb, ne := HT.ne, nums := ?_, marks := ?_, cames := ?_, stamps := ?_, clock := ?_ }
  · rw [hcast, ← hcs]
    exact HX1112.blk HG11 (show ¬ g = w.heap.size + 1 + 1 by omega)
  · refine ⟨_, _, HX1112.blk HMB11 (show ¬ mb = w.heap.size + 1 + 1 by omega), ?_⟩
    rw [Array.toList_push, HES, List.map_append, List.map_singleton, Row.e1, Row.val, hcast, HU]
  · refine ⟨_, _, HX1112.blk HOB11 (show ¬ ob = w.heap.size + 1 + 1 by omega), ?_⟩
    rw [Array.toList_push, HES2, List.map_append, List.map_singleton, Row.e2, hcast, HU]
  · intro r hr
    rcases List.mem_append.1 hr with hr | hr
    · have h := HT.good r hr
      refine { h with fk := ?_, fv := ?_ }
      · exact Kd.F_mono (ex_F X12 (Kd.F_bound h.fk) (fun b hb => by have := hb.1; omega)) (fun b hb => ⟨.inl hb.1.1, hb.1.2⟩)
      · exact Kd.F_mono (ex_F X12 (Kd.F_bound h.fv) (fun b hb => by have := hb.1; omega)) (fun b hb => ⟨.inl hb.1.1, hb.1.2⟩)
    · rw [List.mem_singleton] at hr
      subst hr
      exact ⟨H1, HKEY, HM, HN, HL1, HL2, hR1, hR2⟩
  · intro r hr
    rcases List.mem_append.1 hr with hr | hr
    · have := HT.nums r hr
      omega
    · rw [List.mem_singleton] at hr
      subst hr
      show 1 ≤ came + 1 ∧ came + 1 ≤ came + 1
      omega
  · rw [List.pairwise_append]
    refine ⟨HT.marks, by simp, ?_⟩
    intro r hr s hs
    rw [List.mem_singleton] at hs
    subst hs
    exact posMk_none HKEY.1 HP r.m (List.mem_map.2 ⟨r, hr, rfl⟩)
  · rw [List.pairwise_append]
    refine ⟨HT.cames, by simp, ?_⟩
    intro r hr s hs
    rw [List.mem_singleton] at hs
    subst hs
    have := HT.nums r hr
    show r.n ≠ came + 1
    omega
  · rw [List.pairwise_append]
    refine ⟨HT.stamps, by simp, ?_⟩
    intro r hr s hs
    rw [List.mem_singleton] at hs
    subst hs
    have := HT.clock es cl ((HX3.block _ hmb (fun h => h)).symm.trans HMB3) r hr
    show r.b1 ≠ cl
    omega
  · intro es' c' hb' r hr
    have h12 := HX1112.blk HMB11 (show ¬ mb = w.heap.size + 1 + 1 by omega)
    rw [h12] at hb'
    cases hb'
    rcases List.mem_append.1 hr with hr | hr
    · have := HT.clock es cl ((HX3.block _ hmb (fun h => h)).symm.trans HMB3) r hr
      omega
    · rw [List.mem_singleton] at hr
      subst hr
      show cl < cl + 1
      omega
theorem modify_list {es : Array MapEntry} {rows : List Row} {j : Nat} {r r' : Row} {f : MapEntry → MapEntry} (h : es.toList = rows.map Row.e1) (hr : rows[j]? = some r) (hf : f r.e1 = r'.e1) : (es.modify j f).toList = (rows.set j r').map Row.e1 := by
  apply List.ext_getElem?
  intro i
  have hi := congrArg (fun l => l[i]?) h
  simp only [Array.getElem?_toList, List.getElem?_map] at hi
  rw [Array.getElem?_toList, Array.getElem?_modify, List.getElem?_map, List.getElem?_set]
  by_cases hij : j = i
  · subst hij
    rw [if_pos rfl, if_pos rfl, hi, hr]
    have : j < rows.length := (List.getElem?_eq_some_iff.1 hr).1
    simp [this, hf]
  · rw [if_neg hij, if_neg hij, hi]
theorem under_row {es : Array MapEntry} {rows : List Row} {j : Nat} {r : Row} {z : Value} (h : es.toList = rows.map Row.e1) (hr : rows[j]? = some r) : under es z (some j) = (r.val, true) := by
  have hj := congrArg (fun l => l[j]?) h
  simp only [Array.getElem?_toList, List.getElem?_map, hr, Option.map_some] at hj
  simp [under, hj, Row.e1]
theorem pairwise_set {α : Type} {R : α → α → Prop} (hs : ∀ a b, R a b → R b a) {l : List α} {j : Nat} {r r' : α} (h : l.Pairwise R) (hr : l[j]? = some r) (h1 : ∀ s, R r s → R r' s) : (l.set j r').Pairwise R := by
  induction l generalizing j with
  | nil => simp
  | cons a l ih =>
    rw [List.pairwise_cons] at h
    cases j with
    | zero =>
      simp only [List.getElem?_cons_zero, Option.some.injEq] at hr
      subst hr
      simp only [List.set_cons_zero, List.pairwise_cons]
      exact ⟨fun s hs => h1 s (h.1 s hs), h.2⟩
    | succ j =>
      simp only [List.getElem?_cons_succ] at hr
      simp only [List.set_cons_succ, List.pairwise_cons]
      refine ⟨fun s hs' => ?_, ih h.2 hr⟩
      rcases List.mem_or_eq_of_mem_set hs' with h2 | rfl
      · exact h.1 s h2
      · exact hs _ _ (h1 _ (hs _ _ (h.1 r (List.mem_of_getElem? hr))))
def Row.turn (r : Row) (y : S27) (B : Option Addr) (d : Nat) : Row := { r with v := y, B := B, cb := d }
theorem put_old_end {y : S27} {g mb ob : Nat} {T : Nat → Prop} {rows : List Row} {came j : Nat} {r : Row} {m : Mk} {w w3 w7 w8 w9 w10 : World} {B1 : Option Addr} {d1 n8 cl : Nat} {es : Array MapEntry} {t1 : TypeId} {u1 : Value}
    (HT : Tab w g mb ob T rows came) (HX3 : Ex (fun _ => False) w w3) (HX37 : Ex (fun b => b = w.heap.size + 1 + 1) w3 w7) (HX78 : Ex (fun b => b = w3.heap.size) w7 w8) (HX89 : Ex (fun b => b = mb) w8 w9) (HX910 : Ex (fun b => b = w.heap.size + 1 + 1) w9 w10) (hb : w.heap.size + 1 + 1 < w3.heap.size)
    (HR : rows[j]? = some r) (HRM : r.m = m)
    (HMB9 : w9.heap[mb]? = some (.map (es.modify j fun e => { e with key := .iface t1 u1, val := .agg #[.int .u8 r.k.f0, .int .i64 r.k.f1, .string r.k.f2, .slice r.A r.k.f3.length r.ca, .int .i64 r.k.f4, .int .u8 y.f0, .int .i64 y.f1, .string y.f2, .slice B1 y.f3.length d1, .int .i64 y.f4, .int .i64 r.n] }) cl))
    (HES : es.toList = rows.map Row.e1) (HU : m.val = .iface t1 u1) (HN : mayV y = true) (HL2 : y.f3.length ≤ d1) (HR29 : Kd.R k27 27 w7 n8 (fun b => n8 ≤ b) (.slice B1 y.f3.length d1) y.f3) (h8 : w3.heap.size < n8) (HMB3 : w3.heap[mb]? = some (.map es cl)) :
    Ex (fun b => b = g ∨ b = mb ∨ b = ob) w w10 ∧ Kd.F k27 w10 T r.B r.v.f3.length r.v.f3 ∧ ∃ B d, Tab w10 g mb ob (fun b => T b ∨ w.heap.size ≤ b) (rows.set j (r.turn y B d)) came := by
  have hg : g < w.heap.size := lt_of_blk HT.hg
  have hmb : mb < w.heap.size := let ⟨_, _, h, _⟩ := HT.hm; lt_of_blk h
  have hob : ob < w.heap.size := let ⟨_, _, h, _⟩ := HT.ho; lt_of_blk h
  have h3 := HX3.size
  have hgm : g ≠ mb := by
    rintro rfl
    obtain ⟨_, _, h, _⟩ := HT.hm
    exact absurd (h.symm.trans HT.hg) (by simp)
  have X7 : Ex (fun b => b = mb) w w7 := (HX3.mono (fun _ h => h.elim)).trans HX37 (fun b hb => .inr (by omega))
  have X8 := X7.trans HX78 (fun b hb => .inr (by omega))
  have X9 := X8.trans HX89 (fun b hb => .inl hb)
  have X10 := X9.trans HX910 (fun b hb => .inr (by omega))
  have X710 : Ex (fun b => b = w3.heap.size ∨ b = mb ∨ b = w.heap.size + 1 + 1) w7 w10 := ((HX78.mono (fun _ h => .inl h)).trans HX89 (fun b hb => .inl (.inr (.inl hb)))).trans HX910 (fun b hb => .inl (.inr (.inr hb)))
  have hgood := HT.good r (List.mem_of_getElem? HR)
  have hj : j < rows.length := (List.getElem?_eq_some_iff.1 HR).1
  refine ⟨X10.mono (fun b hb => .inr (.inl hb)), Kd.F_mono (ex_F X10 hgood.fv (fun b hb => hb.2.2.1)) (fun b hb => hb.1), B1, d1, ?_⟩
  have hR2 : Kd.F k27 w10 (fun b => (T b ∨ w.heap.size ≤ b) ∧ b ≠ g ∧ b ≠ mb ∧ b ≠ ob) B1 y.f3.length y.f3 :=
    Kd.F_mono (ex_F X710 (R_F HR29) (fun b hb => by omega)) (fun b hb => ⟨.inr (by omega), by omega, by omega, by omega⟩)
  have hsame : ∀ s : Row, s.Good w (fun b => T b ∧ b ≠ g ∧ b ≠ mb ∧ b ≠ ob) → s.Good w10 (fun b => (T b ∨ w.heap.size ≤ b) ∧ b ≠ g ∧ b ≠ mb ∧ b ≠ ob) := fun s h =>
    (h.ex X10 (fun b hb => hb.2.2.1)).mono (fun b hb => ⟨.inl hb.1, hb.2⟩)
  refine { hg := X10.blk HT.hg hgm, hm := ⟨_, _, HX910.blk HMB9 (show ¬ mb = w.heap.size + 1 + 1 by omega), modify_list HES HR ?_⟩, ho := ?_, good := ?_, tg := .inl HT.tg, tm := .inl HT.tm, tb := .inl HT.tb, ne := HT.ne, nums := ?_, marks := ?_, cames := ?_, stamps := ?_, clock := ?_ }
  · simp only [Row.e1, Row.val, Row.turn, HRM, HU]
  · obtain ⟨es', c', h1, h2⟩ := HT.ho
    refine ⟨es', c', X10.blk h1 (Ne.symm HT.ne), ?_⟩
    rw [h2]
    apply List.ext_getElem?
    intro i
    rw [List.getElem?_map, List.getElem?_map, List.getElem?_set]
    by_cases hij : j = i
    · subst hij
      rw [if_pos rfl, if_pos hj, HR]
      rfl
    · rw [if_neg hij]
  · intro s hs
    rcases List.mem_or_eq_of_mem_set hs with h | rfl
    · exact hsame s (HT.good s h)
    · have h := hsame r hgood
      exact { h with mayv := HN, lv := HL2, fv := hR2 }
  · intro s hs
    rcases List.mem_or_eq_of_mem_set hs with h | rfl
    · exact HT.nums s h
    · exact HT.nums r (List.mem_of_getElem? HR)
  · exact pairwise_set (fun _ _ h => Ne.symm h) HT.marks HR (fun s h => h)
  · exact pairwise_set (fun _ _ h => Ne.symm h) HT.cames HR (fun s h => h)
  · exact pairwise_set (fun _ _ h => Ne.symm h) HT.stamps HR (fun s h => h)
  · intro es' c' hb' s hs
    rw [HX910.blk HMB9 (show ¬ mb = w.heap.size + 1 + 1 by omega)] at hb'
    cases hb'
    have hc := HT.clock es cl ((HX3.block _ hmb (fun h => h)).symm.trans HMB3)
    rcases List.mem_or_eq_of_mem_set hs with h | rfl
    · exact hc s h
    · exact hc r (List.mem_of_getElem? HR)
end Go.Proofs.Ythkemcekcfccpaa.PBrandCompares
end
section
namespace Go.Proofs.Ythkemcekcfccpaa.PBrandCompares
open Go.RowKit Go.Proofs.YthkemcekcfccpaaW.PrintWords Go.Proofs.YthkemcekcfccpaaW.PrintLast Go.Proofs.YthkemcekcfccpaaW.PrintMore
open Go.Proofs.Ythkemcekcfccpaa.GBrandCompares
set_option linter.unusedVariables false
set_option linter.unusedSimpArgs false
abbrev PUT (x y : S27) (A B : Option Addr) (c d g : Nat) (w : World) (R : Ending → World → Prop) : Prop :=
  Calls Try.prog 15 #[.pointer (some ⟨g, 0, none⟩), .agg #[.int .u8 x.f0, .int .i64 x.f1, .string x.f2, .slice A x.f3.length c, .int .i64 x.f4], .agg #[.int .u8 y.f0, .int .i64 y.f1, .string y.f2, .slice B y.f3.length d, .int .i64 y.f4]] w R
def zval : Value := .agg #[.int .u8 0, .int .i64 0, .string ⟨#[]⟩, .slice none 0 0, .int .i64 0]
set_option maxHeartbeats 400000 in
theorem put_arg1 (x y : S27) (A B : Option Addr) (c d g mb : Nat) (b3 b4 : Value) (w : World) (ok : Nat → Prop) (h : w.heap[g]? = some (.cells #[.map (some mb), b3, b4] 66 (0, 0))) (hF : Kd.F k27 w ok A x.f3.length x.f3) (hF2 : Kd.F k27 w ok B y.f3.length y.f3) (hm : mayV x = false) : PUT x y A B c d g w fun e w' => e = .returned (.tuple #[zval, .bool false, .int .i64 2]) ∧ Ex (fun _ => False) w w' := by
  have HG := Aside0.mk h
  have HF := Aside0.mk hF
  have HM := Aside0.mk hm
  clear h hF hm hF2
  unfold PUT
  go_enter Try.func15, Try.ntmps15
  go_wp2_with fail
  refine (none_no g mb b3 b4 _ (blk_alloc (blk_alloc (blk_alloc HG.out _) _) _)).mono ?_
  rintro e w1 ⟨rfl, rfl⟩
  go_wp2_with fail
  refine (may_calls x A c _ _ (Kd.F_alloc (Kd.F_alloc (Kd.F_alloc HF.out _) _) _)).mono ?_
  rintro e w1 ⟨rfl, hx1⟩
  have hm' := HM.out
  rw [hm']
  clear hm'
  have HG1 := Aside0.mk (hx1.blk (blk_alloc (blk_alloc (blk_alloc HG.out _) _) _) (fun h => h))
  have HK1 := Aside0.mk (hx1.blk (blk_alloc (blk_alloc (blk_new1 w _) _) _) (fun h => h))
  have HV1 := Aside0.mk (hx1.blk (blk_alloc (blk_new2 w _ _) _) (fun h => h))
  have HB1 := Aside0.mk (show w1.heap[w.heap.size + 1 + 1]? = some (.cells #[.int .u8 0, .int .i64 0, .string ⟨#[]⟩, .slice none 0 0, .int .i64 0] 27 (0, 0)) from hx1.blk (blk_new3 w _ _ _) (fun h => h))
  have HX1 := Aside0.mk (((((Ex.refl (fun _ => False) w).alloc _).alloc _).alloc _).trans hx1 (fun _ h => h.elim))
  clear hx1
  have bc0 := (blk_cell HB1.out 0).trans rfl
  have bc1 := (blk_cell HB1.out 1).trans rfl
  have bc2 := (blk_cell HB1.out 2).trans rfl
  have bc3 := (blk_cell HB1.out 3).trans rfl
  have bc4 := (blk_cell HB1.out 4).trans rfl
  have bf0 := blk_frozen HB1.out 0
  have bf1 := blk_frozen HB1.out 1
  have bf2 := blk_frozen HB1.out 2
  have bf3 := blk_frozen HB1.out 3
  have bf4 := blk_frozen HB1.out 4
  have bl := lt_of_blk HB1.out
  go_wp2_with fail
  refine bodyPost_ret (results_row_tmp2 rfl _ _ (w.heap.size + 1 + 1) 27 _ (0, 0) _ rfl (put27 HB1.out rfl _ _ _ _ _) Try.underlying27 rfl size27) rfl ?_
  exact ⟨rfl, ex_put27 HX1.out (.inr (by omega)) _ _ _ _ _⟩
set_option maxHeartbeats 400000 in
theorem put_arg2 (x y : S27) (A B : Option Addr) (c d g mb : Nat) (b3 b4 : Value) (w : World) (ok : Nat → Prop) (h : w.heap[g]? = some (.cells #[.map (some mb), b3, b4] 66 (0, 0))) (hF : Kd.F k27 w ok A x.f3.length x.f3) (hF2 : Kd.F k27 w ok B y.f3.length y.f3) (hm : mayV x = true) (hn : mayV y = false) : PUT x y A B c d g w fun e w' => e = .returned (.tuple #[zval, .bool false, .int .i64 2]) ∧ Ex (fun _ => False) w w' := by
  have HG := Aside0.mk h
  have HF := Aside0.mk hF
  have HF2 := Aside0.mk hF2
  have HM := Aside0.mk hm
  have HN := Aside0.mk hn
  clear h hF hm hF2 hn
  unfold PUT
  go_enter Try.func15, Try.ntmps15
  go_wp2_with fail
  refine (none_no g mb b3 b4 _ (blk_alloc (blk_alloc (blk_alloc HG.out _) _) _)).mono ?_
  rintro e w1 ⟨rfl, rfl⟩
  go_wp2_with fail
  refine (may_calls x A c _ _ (Kd.F_alloc (Kd.F_alloc (Kd.F_alloc HF.out _) _) _)).mono ?_
  rintro e w1 ⟨rfl, hx1⟩
  have hm' := HM.out
  rw [hm']
  clear hm'
  have HG1 := Aside0.mk (hx1.blk (blk_alloc (blk_alloc (blk_alloc HG.out _) _) _) (fun h => h))
  have HK1 := Aside0.mk (hx1.blk (blk_alloc (blk_alloc (blk_new1 w _) _) _) (fun h => h))
  have HV1 := Aside0.mk (hx1.blk (blk_alloc (blk_new2 w _ _) _) (fun h => h))
  have HB1 := Aside0.mk (show w1.heap[w.heap.size + 1 + 1]? = some (.cells #[.int .u8 0, .int .i64 0, .string ⟨#[]⟩, .slice none 0 0, .int .i64 0] 27 (0, 0)) from hx1.blk (blk_new3 w _ _ _) (fun h => h))
  have HX1 := Aside0.mk (((((Ex.refl (fun _ => False) w).alloc _).alloc _).alloc _).trans hx1 (fun _ h => h.elim))
  clear hx1
  have vc0 := (blk_cell HV1.out 0).trans rfl
  have vc1 := (blk_cell HV1.out 1).trans rfl
  have vc2 := (blk_cell HV1.out 2).trans rfl
  have vc3 := (blk_cell HV1.out 3).trans rfl
  have vc4 := (blk_cell HV1.out 4).trans rfl
  have vf0 := blk_frozen HV1.out 0
  have vf1 := blk_frozen HV1.out 1
  have vf2 := blk_frozen HV1.out 2
  have vf3 := blk_frozen HV1.out 3
  have vf4 := blk_frozen HV1.out 4
  have vl := lt_of_blk HV1.out
  go_wp2_with fail
  refine (may_calls y B d _ _ (ex_F HX1.out HF2.out (fun _ _ h => h))).mono ?_
  rintro e w2 ⟨rfl, hx2⟩
  have hm' := HN.out
  rw [hm']
  clear hm'
  have HG2 := Aside0.mk (hx2.blk HG1.out (fun h => h))
  have HK2 := Aside0.mk (hx2.blk HK1.out (fun h => h))
  have HV2 := Aside0.mk (hx2.blk HV1.out (fun h => h))
  have HB2 := Aside0.mk (hx2.blk HB1.out (fun h => h))
  have HX2 := Aside0.mk (HX1.out.trans hx2 (fun _ h => h.elim))
  clear hx2
  clear vc0 vc1 vc2 vc3 vc4 vf0 vf1 vf2 vf3 vf4 vl
  have bc0 := (blk_cell HB2.out 0).trans rfl
  have bc1 := (blk_cell HB2.out 1).trans rfl
  have bc2 := (blk_cell HB2.out 2).trans rfl
  have bc3 := (blk_cell HB2.out 3).trans rfl
  have bc4 := (blk_cell HB2.out 4).trans rfl
  have bf0 := blk_frozen HB2.out 0
  have bf1 := blk_frozen HB2.out 1
  have bf2 := blk_frozen HB2.out 2
  have bf3 := blk_frozen HB2.out 3
  have bf4 := blk_frozen HB2.out 4
  have bl := lt_of_blk HB2.out
  go_wp2_with fail
  refine bodyPost_ret (results_row_tmp2 rfl _ _ (w.heap.size + 1 + 1) 27 _ (0, 0) _ rfl (put27 HB2.out rfl _ _ _ _ _) Try.underlying27 rfl size27) rfl ?_
  exact ⟨rfl, ex_put27 HX2.out (.inr (by omega)) _ _ _ _ _⟩
set_option maxHeartbeats 400000 in
theorem put_key (x y : S27) (A B : Option Addr) (c d g mb : Nat) (b3 b4 : Value) (w : World) (ok : Nat → Prop) (h : w.heap[g]? = some (.cells #[.map (some mb), b3, b4] 66 (0, 0))) (hF : Kd.F k27 w ok A x.f3.length x.f3) (hF2 : Kd.F k27 w ok B y.f3.length y.f3) (hm : mayV x = true) (hn : mayV y = true) (hk : ∀ m, MarkOf x m → m.keys = false) : PUT x y A B c d g w fun e w' => e = .returned (.tuple #[zval, .bool false, .int .i64 40]) ∧ Ex (fun _ => False) w w' := by
  have HG := Aside0.mk h
  have HF := Aside0.mk hF
  have HF2 := Aside0.mk hF2
  have HM := Aside0.mk hm
  have HN := Aside0.mk hn
  have HKK := Aside0.mk hk
  clear h hF hm hF2 hn hk
  unfold PUT
  go_enter Try.func15, Try.ntmps15
  go_wp2_with fail
  refine (none_no g mb b3 b4 _ (blk_alloc (blk_alloc (blk_alloc HG.out _) _) _)).mono ?_
  rintro e w1 ⟨rfl, rfl⟩
  go_wp2_with fail
  refine (may_calls x A c _ _ (Kd.F_alloc (Kd.F_alloc (Kd.F_alloc HF.out _) _) _)).mono ?_
  rintro e w1 ⟨rfl, hx1⟩
  have hm' := HM.out
  rw [hm']
  clear hm'
  have HG1 := Aside0.mk (hx1.blk (blk_alloc (blk_alloc (blk_alloc HG.out _) _) _) (fun h => h))
  have HK1 := Aside0.mk (hx1.blk (blk_alloc (blk_alloc (blk_new1 w _) _) _) (fun h => h))
  have HV1 := Aside0.mk (hx1.blk (blk_alloc (blk_new2 w _ _) _) (fun h => h))
  have HB1 := Aside0.mk (show w1.heap[w.heap.size + 1 + 1]? = some (.cells #[.int .u8 0, .int .i64 0, .string ⟨#[]⟩, .slice none 0 0, .int .i64 0] 27 (0, 0)) from hx1.blk (blk_new3 w _ _ _) (fun h => h))
  have HX1 := Aside0.mk (((((Ex.refl (fun _ => False) w).alloc _).alloc _).alloc _).trans hx1 (fun _ h => h.elim))
  clear hx1
  have vc0 := (blk_cell HV1.out 0).trans rfl
  have vc1 := (blk_cell HV1.out 1).trans rfl
  have vc2 := (blk_cell HV1.out 2).trans rfl
  have vc3 := (blk_cell HV1.out 3).trans rfl
  have vc4 := (blk_cell HV1.out 4).trans rfl
  have vf0 := blk_frozen HV1.out 0
  have vf1 := blk_frozen HV1.out 1
  have vf2 := blk_frozen HV1.out 2
  have vf3 := blk_frozen HV1.out 3
  have vf4 := blk_frozen HV1.out 4
  have vl := lt_of_blk HV1.out
  go_wp2_with fail
  refine (may_calls y B d _ _ (ex_F HX1.out HF2.out (fun _ _ h => h))).mono ?_
  rintro e w2 ⟨rfl, hx2⟩
  have hm' := HN.out
  rw [hm']
  clear hm'
  have HG2 := Aside0.mk (hx2.blk HG1.out (fun h => h))
  have HK2 := Aside0.mk (hx2.blk HK1.out (fun h => h))
  have HV2 := Aside0.mk (hx2.blk HV1.out (fun h => h))
  have HB2 := Aside0.mk (hx2.blk HB1.out (fun h => h))
  have HX2 := Aside0.mk (HX1.out.trans hx2 (fun _ h => h.elim))
  clear hx2
  clear vc0 vc1 vc2 vc3 vc4 vf0 vf1 vf2 vf3 vf4 vl
  have kc0 := (blk_cell HK2.out 0).trans rfl
  have kc1 := (blk_cell HK2.out 1).trans rfl
  have kc2 := (blk_cell HK2.out 2).trans rfl
  have kc3 := (blk_cell HK2.out 3).trans rfl
  have kc4 := (blk_cell HK2.out 4).trans rfl
  have kf0 := blk_frozen HK2.out 0
  have kf1 := blk_frozen HK2.out 1
  have kf2 := blk_frozen HK2.out 2
  have kf3 := blk_frozen HK2.out 3
  have kf4 := blk_frozen HK2.out 4
  have kl := lt_of_blk HK2.out
  go_wp2_with fail
  refine (find_key' x A c g mb b3 b4 _ ok HG2.out (ex_F HX2.out HF.out (fun _ _ h => h)) HM.out).mono ?_
  rintro e w3 ⟨m, h1, h2, hx3, rfl⟩
  have hk' := HKK.out m h1
  rw [hk']
  clear hk' h1 h2
  have HB3 := Aside0.mk (hx3.blk HB2.out (fun h => h))
  have HX3 := Aside0.mk (HX2.out.trans hx3 (fun _ h => h.elim))
  clear hx3
  clear kc0 kc1 kc2 kc3 kc4 kf0 kf1 kf2 kf3 kf4 kl
  have bc0 := (blk_cell HB3.out 0).trans rfl
  have bc1 := (blk_cell HB3.out 1).trans rfl
  have bc2 := (blk_cell HB3.out 2).trans rfl
  have bc3 := (blk_cell HB3.out 3).trans rfl
  have bc4 := (blk_cell HB3.out 4).trans rfl
  have bf0 := blk_frozen HB3.out 0
  have bf1 := blk_frozen HB3.out 1
  have bf2 := blk_frozen HB3.out 2
  have bf3 := blk_frozen HB3.out 3
  have bf4 := blk_frozen HB3.out 4
  have bl := lt_of_blk HB3.out
  go_wp2_with fail
  refine bodyPost_ret (results_row_tmp2 rfl _ _ (w.heap.size + 1 + 1) 27 _ (0, 0) _ rfl (put27 HB3.out rfl _ _ _ _ _) Try.underlying27 rfl size27) rfl ?_
  exact ⟨rfl, ex_put27 HX3.out (.inr (by omega)) _ _ _ _ _⟩
end Go.Proofs.Ythkemcekcfccpaa.PBrandCompares
end
