/- Tables of package brand: none, New, find. -/
import Derived.Test.YthkemcekcfccpaaBrandComparesK2
namespace Go.Proofs.Ythkemcekcfccpaa.PBrandCompares
open Go.RowKit Go.Proofs.YthkemcekcfccpaaW.PrintWords Go.Proofs.YthkemcekcfccpaaW.PrintLast Go.Proofs.YthkemcekcfccpaaW.PrintMore
open Go.Proofs.Ythkemcekcfccpaa.GBrandCompares
set_option linter.unusedVariables false
set_option linter.unusedSimpArgs false

/-- a map against none -/
theorem map_some (mb : Nat) (w : World) : (binOp .eql 63 (.map (some mb)) (.map none)).run Try.prog w = .ok (.bool false) w := by
  have h : ∀ d : Nat, (Op.equalIn (d + 1) 63 (.map (some mb)) (.map none)).run Try.prog w = .ok false w := fun d => by simp [Op.equalIn, run_underlying Try.underlying63]
  simp only [binOp, Op.equal, Sem.run_bind]
  rw [show Op.maxDepth = 9999 + 1 from rfl, h]
  rfl
theorem map_none (w : World) : (binOp .eql 63 (.map none) (.map none)).run Try.prog w = .ok (.bool true) w := by
  have h : ∀ d : Nat, (Op.equalIn (d + 1) 63 (.map none) (.map none)).run Try.prog w = .ok true w := fun d => by simp [Op.equalIn, run_underlying Try.underlying63]
  simp only [binOp, Op.equal, Sem.run_bind]
  rw [show Op.maxDepth = 9999 + 1 from rfl, h]
  rfl

theorem none_nil (w : World) : Calls Try.prog 37 #[.pointer none] w fun e w' => e = .returned (.bool true) ∧ w' = w := by
  go_enter Try.func37, Try.ntmps37
  go_wp2
  go_ret
  exact ⟨rfl, rfl⟩

theorem none_no (g mb : Nat) (b c : Value) (w : World) (h : w.heap[g]? = some (.cells #[.map (some mb), b, c] 66 (0, 0))) : Calls Try.prog 37 #[.pointer (some ⟨g, 0, none⟩)] w fun e w' => e = .returned (.bool false) ∧ w' = w := by
  have hl := lt_of_blk h
  have c0 := (blk_cell h 0).trans rfl
  clear h
  have hq := map_some mb
  go_enter Try.func37, Try.ntmps37
  go_wp2
  go_ret
  exact ⟨rfl, rfl⟩

theorem none_unmade (g : Nat) (b c : Value) (w : World) (h : w.heap[g]? = some (.cells #[.map none, b, c] 66 (0, 0))) : Calls Try.prog 37 #[.pointer (some ⟨g, 0, none⟩)] w fun e w' => e = .returned (.bool true) ∧ w' = w := by
  have hl := lt_of_blk h
  have c0 := (blk_cell h 0).trans rfl
  clear h
  have hq := map_none
  go_enter Try.func37, Try.ntmps37
  go_wp2
  go_ret
  exact ⟨rfl, rfl⟩

theorem new_calls (w : World) : Calls Try.prog 14 #[] w fun e w' => e = .returned (.pointer (some ⟨w.heap.size + 2, 0, none⟩)) ∧
    w' = ((w.alloc (.map #[] 0)).alloc (.map #[] 0)).alloc (.cells #[.map (some w.heap.size), .map (some (w.heap.size + 1)), .int .i64 0] 66) := by
  have hmk := make_map
  go_enter Try.func14, Try.ntmps14
  go_wp2
  go_ret
  exact ⟨rfl, rfl⟩

set_option maxHeartbeats 400000 in
theorem find_arg (x : S27) (A : Option Addr) (c : Nat) (g mb : Nat) (b d : Value) (w : World) (ok : Nat → Prop) (h : w.heap[g]? = some (.cells #[.map (some mb), b, d] 66 (0, 0))) (hF : Kd.F k27 w ok A x.f3.length x.f3) (hm : mayV x = false) :
    Calls Try.prog 39 #[.pointer (some ⟨g, 0, none⟩), .agg #[.int .u8 x.f0, .int .i64 x.f1, .string x.f2, .slice A x.f3.length c, .int .i64 x.f4]] w fun e w' => e = .returned (.tuple #[.nilIface, .int .i64 2]) ∧ Ex (fun _ => False) w w' := by
  have HG := Aside0.mk h
  have HF := Aside0.mk hF
  have HM := Aside0.mk hm
  clear h hF hm
  go_enter Try.func39, Try.ntmps39
  go_wp2_with fail
  refine (none_no g mb b d _ (blk_alloc HG.out _)).mono ?_
  rintro e w1 ⟨rfl, rfl⟩
  go_wp2_with fail
  refine (of_no x A c _ ok (Kd.F_alloc HF.out _) HM.out).mono ?_
  rintro e w1 ⟨rfl, hx1⟩
  have HX1 := Aside0.mk (((Ex.refl (fun _ => False) w).alloc _).trans hx1 (fun _ h => h.elim))
  clear hx1
  go_wp2
  go_ret2
  exact ⟨rfl, HX1.out⟩

set_option maxHeartbeats 400000 in
theorem find_key' (x : S27) (A : Option Addr) (c : Nat) (g mb : Nat) (b d : Value) (w : World) (ok : Nat → Prop) (h : w.heap[g]? = some (.cells #[.map (some mb), b, d] 66 (0, 0))) (hF : Kd.F k27 w ok A x.f3.length x.f3) (hm : mayV x = true) :
    Calls Try.prog 39 #[.pointer (some ⟨g, 0, none⟩), .agg #[.int .u8 x.f0, .int .i64 x.f1, .string x.f2, .slice A x.f3.length c, .int .i64 x.f4]] w fun e w' => ∃ m : Mk, MarkOf x m ∧ m.deep ≤ 16 ∧ Ex (fun _ => False) w w' ∧
      e = .returned (.tuple (if m.keys then #[m.val, .int .i64 0] else #[.nilIface, .int .i64 40])) := by
  have HG := Aside0.mk h
  have HF := Aside0.mk hF
  have HM := Aside0.mk hm
  clear h hF hm
  go_enter Try.func39, Try.ntmps39
  go_wp2_with fail
  refine (none_no g mb b d _ (blk_alloc HG.out _)).mono ?_
  rintro e w1 ⟨rfl, rfl⟩
  go_wp2_with fail
  refine (of_yes x A c _ ok (Kd.F_alloc HF.out _) HM.out).mono ?_
  rintro e w1 ⟨m, h1, h2, rfl, hx1⟩
  have HX1 := Aside0.mk (((Ex.refl (fun _ => False) w).alloc _).trans hx1 (fun _ h => h.elim))
  have HH := Aside0.mk (And.intro h1 h2)
  obtain ⟨t1, u1, hu1⟩ := m.val_iface
  have HK := Aside0.mk (key_calls m h2)
  rw [hu1]
  rw [hu1] at HK
  have HU := Aside0.mk hu1
  clear hx1 h1 h2 hu1
  go_wp2_with fail
  refine (HK.out _).mono ?_
  rintro e w2 ⟨rfl, hx2⟩
  have HX2 := Aside0.mk (HX1.out.trans hx2 (fun _ h => h.elim))
  clear hx2
  cases hk : m.keys with
  | true =>
    have HKK := Aside0.mk hk
    clear hk
    go_wp2
    go_ret2
    exact ⟨m, HH.out.1, HH.out.2, HX2.out, by rw [HKK.out, HU.out]; rfl⟩
  | false =>
    have HKK := Aside0.mk hk
    clear hk
    go_wp2
    go_ret2
    exact ⟨m, HH.out.1, HH.out.2, HX2.out, by rw [HKK.out]; rfl⟩

end Go.Proofs.Ythkemcekcfccpaa.PBrandCompares
