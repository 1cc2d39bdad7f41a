/- The values that the laws make: a number, a text, a list. -/
import Derived.Test.YthkemcekcfccpaaBrandComparesO2
namespace Go.Proofs.Ythkemcekcfccpaa.PBrandCompares
open Go.RowKit Go.Proofs.YthkemcekcfccpaaW.PrintWords Go.Proofs.YthkemcekcfccpaaW.PrintLast Go.Proofs.YthkemcekcfccpaaW.PrintMore
open Go.Proofs.Ythkemcekcfccpaa.GBrandCompares
set_option linter.unusedVariables false
set_option linter.unusedSimpArgs false

theorem number_calls (n : Int) (w : World) : Calls Try.prog 27 #[.int .i64 n] w fun e w' => e = .returned (.agg #[.int .u8 1, .int .i64 n, .string ⟨#[]⟩, .slice none 0 0, .int .i64 0]) ∧ Ex (fun _ => False) w w' := by
  go_enter Try.func27, Try.ntmps27
  go_wp2_with fail
  refine bodyPost_ret (results_cell_row rfl _ _ w.heap.size 27 _ (0, 0) _ rfl (blk_new1 w _) Try.underlying27 rfl size27) rfl ?_
  exact ⟨rfl, (Ex.refl _ _).alloc _⟩

theorem word_calls (s : ByteArray) (w : World) : Calls Try.prog 28 #[.string s] w fun e w' => e = .returned (.agg #[.int .u8 2, .int .i64 0, .string s, .slice none 0 0, .int .i64 0]) ∧ Ex (fun _ => False) w w' := by
  go_enter Try.func28, Try.ntmps28
  go_wp2_with fail
  refine bodyPost_ret (results_cell_row rfl _ _ w.heap.size 27 _ (0, 0) _ rfl (blk_new1 w _) Try.underlying27 rfl size27) rfl ?_
  exact ⟨rfl, (Ex.refl _ _).alloc _⟩

theorem list_calls (A : Option Addr) (n c : Nat) (w : World) : Calls Try.prog 29 #[.slice A n c] w fun e w' => e = .returned (.agg #[.int .u8 3, .int .i64 0, .string ⟨#[]⟩, .slice A n c, .int .i64 0]) ∧ Ex (fun _ => False) w w' := by
  go_enter Try.func29, Try.ntmps29
  go_wp2_with fail
  refine bodyPost_ret (results_cell_row rfl _ _ w.heap.size 27 _ (0, 0) _ rfl (blk_new1 w _) Try.underlying27 rfl size27) rfl ?_
  exact ⟨rfl, (Ex.refl _ _).alloc _⟩

def num (n : Int) : S27 := ⟨1, n, ⟨#[]⟩, [], 0⟩
def txt (s : ByteArray) : S27 := ⟨2, 0, s, [], 0⟩
def lst (l : List S27) : S27 := ⟨3, 0, ⟨#[]⟩, l, 0⟩

theorem F_pair {w : World} {b : Nat} (m n : Int) (h : w.heap[b]? = some (.cells #[.int .u8 1, .int .i64 m, .string ⟨#[]⟩, .slice none 0 0, .int .i64 0, .int .u8 1, .int .i64 n, .string ⟨#[]⟩, .slice none 0 0, .int .i64 0] 27 (0, 0))) :
    Kd.F k27 w (fun k => k = b) (some ⟨b, 0, none⟩) 2 [num m, num n] := by
  intro W' hW
  have h' : W'.heap[b]? = some (.cells #[.int .u8 1, .int .i64 m, .string ⟨#[]⟩, .slice none 0 0, .int .i64 0, .int .u8 1, .int .i64 n, .string ⟨#[]⟩, .slice none 0 0, .int .i64 0] 27 (0, 0)) := (hW b rfl (lt_of_blk h)).trans h
  have hk : ∀ m : Int, k27.K W' (num m) [.int .u8 1, .int .i64 m, .string ⟨#[]⟩, .slice none 0 0, .int .i64 0] := fun m => k27_mk W' (num m) (A3 := none) (c3 := 0) (Nat.le_refl _) (Kd.C_nil k27 W')
  refine ⟨rfl, by omega, fun _ => ⟨⟨b, 0, none⟩, rfl, ?_⟩⟩
  intro j p hj
  match j with
  | 0 =>
    cases hj
    refine ⟨_, rfl, hk m, ?_⟩
    intro i u hu
    rw [show k27.sz = 5 from rfl, show 0 * 5 + i = i by omega]
    have hc := blk_cell h' i
    have : i < 5 := by have := (List.getElem?_eq_some_iff.1 hu).1; simpa using this
    match i with
    | 0 | 1 | 2 | 3 | 4 => cases hu; exact hc
  | 1 =>
    cases hj
    refine ⟨_, rfl, hk n, ?_⟩
    intro i u hu
    rw [show k27.sz = 5 from rfl]
    have hc := blk_cell h' (1 * 5 + i)
    have : i < 5 := by have := (List.getElem?_eq_some_iff.1 hu).1; simpa using this
    match i with
    | 0 | 1 | 2 | 3 | 4 => cases hu; exact hc
  | j + 2 => simp at hj

end Go.Proofs.Ythkemcekcfccpaa.PBrandCompares
