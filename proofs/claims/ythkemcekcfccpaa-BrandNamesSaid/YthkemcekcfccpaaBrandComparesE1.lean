/- What a call leaves of a world: all blocks that were there but those of a set S, and all that is no block (Ex). -/
import Derived.WalkKit
import Derived.Deep.Draws
import Derived.Lib.Hide
namespace Go.Proofs.Ythkemcekcfccpaa.GBrandCompares
open Go.RowKit

structure Ex (S : Nat → Prop) (w w' : World) : Prop where
  os : w'.os = w.os
  tape : w'.tape = w.tape
  output : w'.output = w.output
  size : w.heap.size ≤ w'.heap.size
  block : ∀ b, b < w.heap.size → ¬ S b → w'.heap[b]? = w.heap[b]?

namespace Ex
variable {S S2 : Nat → Prop} {w w1 w2 : World}
theorem refl (S : Nat → Prop) (w : World) : Ex S w w := ⟨rfl, rfl, rfl, Nat.le_refl _, fun _ _ _ => rfl⟩
theorem trans (h : Ex S w w1) (k : Ex S2 w1 w2) (hs : ∀ b, S2 b → S b ∨ w.heap.size ≤ b) : Ex S w w2 :=
  ⟨k.os.trans h.os, k.tape.trans h.tape, k.output.trans h.output, Nat.le_trans h.size k.size, fun b hb hn =>
    (k.block b (Nat.lt_of_lt_of_le hb h.size) (fun h2 => (hs b h2).elim hn (fun h3 => absurd hb (Nat.not_lt.2 h3)))).trans (h.block b hb hn)⟩
theorem mono (h : Ex S w w1) (hs : ∀ b, S b → S2 b) : Ex S2 w w1 := ⟨h.os, h.tape, h.output, h.size, fun b hb hn => h.block b hb (fun h1 => hn (hs b h1))⟩
/-- what is above the beginning may always be written -/
theorem lower (h : Ex S w w1) (hs : ∀ b, S b → S2 b ∨ w.heap.size ≤ b) : Ex S2 w w1 :=
  ⟨h.os, h.tape, h.output, h.size, fun b hb hn => h.block b hb (fun h1 => (hs b h1).elim hn (fun h3 => absurd hb (Nat.not_lt.2 h3)))⟩
theorem alloc (h : Ex S w w1) (o : Obj) : Ex S w (w1.alloc o) :=
  h.trans (S2 := fun _ => False) ⟨rfl, rfl, rfl, by simp, fun b hb _ => Below.heap_alloc w1 o b hb⟩ (fun _ h => h.elim)
theorem set (h : Ex S w w1) {p : Addr} (hp : S p.block ∨ w.heap.size ≤ p.block) (u : Value) : Ex S w (w1.setCell p u) :=
  h.trans (S2 := fun b => b = p.block) ⟨rfl, rfl, rfl, by simp [World.setCell], fun b _ hn => Below.heap_setCell w1 p u b hn⟩ (fun b hb => hb ▸ hp)
theorem drew (h : Ex S w w1) : Ex S w w1.drew := ⟨h.os, h.tape, h.output, h.size, h.block⟩
theorem drewN (h : Ex S w w1) (n : Nat) : Ex S w (w1.drewN n) := ⟨h.os, h.tape, h.output, h.size, h.block⟩
theorem of_below (h : Below w.heap.size w w1) : Ex S w w1 := ⟨h.os, h.tape, h.output, h.size, fun b hb _ => h.block b hb⟩
theorem below {n : Nat} (h : Ex S w w1) (hn : n ≤ w.heap.size) (hs : ∀ b, S b → n ≤ b) : Below n w w1 :=
  ⟨h.os, h.tape, h.output, h.size, fun b hb => h.block b (Nat.lt_of_lt_of_le hb hn) (fun h1 => absurd hb (Nat.not_lt.2 (hs b h1)))⟩
theorem then_below (h : Ex S w w1) (k : Below w1.heap.size w1 w2) : Ex S w w2 := h.trans (S2 := fun _ => False) (of_below k) (fun _ h => h.elim)
theorem blk (h : Ex S w w1) {b : Nat} {o : Obj} (hb : w.heap[b]? = some o) (hn : ¬ S b) : w1.heap[b]? = some o :=
  (h.block b (Array.getElem?_eq_some_iff.1 hb).1 hn).trans hb
theorem cell (h : Ex S w w1) {b : Nat} (hb : b < w.heap.size) (hn : ¬ S b) (i : Nat) : w1.cell? ⟨b, i, none⟩ = w.cell? ⟨b, i, none⟩ := by
  simp only [World.cell?, h.block b hb hn]
theorem frozen (h : Ex S w w1) {b : Nat} (hb : b < w.heap.size) (hn : ¬ S b) (i : Nat) : w1.frozen? ⟨b, i, none⟩ = w.frozen? ⟨b, i, none⟩ := by
  simp only [World.frozen?, h.block b hb hn]
/-- THE WALK's RULES behind a call that has turned no block that was there -/
theorem cells (h : Ex (fun _ => False) w w1) : (∀ b i, b < w.heap.size → w1.cell? ⟨b, i, none⟩ = w.cell? ⟨b, i, none⟩) ∧ (∀ b i, b < w.heap.size → w1.frozen? ⟨b, i, none⟩ = w.frozen? ⟨b, i, none⟩) :=
  ⟨fun _ i hb => h.cell hb (fun h => h.elim) i, fun _ i hb => h.frozen hb (fun h => h.elim) i⟩
/-- .. behind one that has turned the block g alone -/
theorem cells_but {g : Nat} (h : Ex (fun b => b = g) w w1) : (∀ b i, b < w.heap.size → b ≠ g → w1.cell? ⟨b, i, none⟩ = w.cell? ⟨b, i, none⟩) ∧ (∀ b i, b < w.heap.size → b ≠ g → w1.frozen? ⟨b, i, none⟩ = w.frozen? ⟨b, i, none⟩) :=
  ⟨fun _ i hb hn => h.cell hb hn i, fun _ i hb hn => h.frozen hb hn i⟩
end Ex

theorem lt_of_blk {w : World} {b : Nat} {o : Obj} (h : w.heap[b]? = some o) : b < w.heap.size := (Array.getElem?_eq_some_iff.1 h).1

theorem blk_new1 (w : World) (o : Obj) : (w.alloc o).heap[w.heap.size]? = some o := heap_alloc_new w o
theorem blk_new2 (w : World) (o1 o2 : Obj) : ((w.alloc o1).alloc o2).heap[w.heap.size + 1]? = some o2 := by
  rw [show w.heap.size + 1 = (w.alloc o1).heap.size by simp]; exact heap_alloc_new _ _
theorem blk_new3 (w : World) (o1 o2 o3 : Obj) : (((w.alloc o1).alloc o2).alloc o3).heap[w.heap.size + 2]? = some o3 := by
  rw [show w.heap.size + 2 = ((w.alloc o1).alloc o2).heap.size by simp]; exact heap_alloc_new _ _
theorem blk_new4 (w : World) (o1 o2 o3 o4 : Obj) : ((((w.alloc o1).alloc o2).alloc o3).alloc o4).heap[w.heap.size + 3]? = some o4 := by
  rw [show w.heap.size + 3 = (((w.alloc o1).alloc o2).alloc o3).heap.size by simp]; exact heap_alloc_new _ _

end Go.Proofs.Ythkemcekcfccpaa.GBrandCompares
