/- The Go function 'mark' of package brand makes a value's mark. -/
import Derived.Test.YthkemcekcfccpaaBrandComparesH2
import Derived.Test.YthkemcekcfccpaaBrandComparesH4
import Derived.Deep.RegionHeld3
namespace Go.Proofs.Ythkemcekcfccpaa.PBrandCompares
open Go.RowKit Go.Proofs.YthkemcekcfccpaaW.PrintWords Go.Proofs.YthkemcekcfccpaaW.PrintLast Go.Proofs.YthkemcekcfccpaaW.PrintMore
open Go.Proofs.Ythkemcekcfccpaa.GBrandCompares
set_option linter.unusedVariables false
set_option linter.unusedSimpArgs false

/-- nested at most so deep, and no list longer than 511 -/
def Fit : Nat → S27 → Prop
  | 0, x => x.f0 ≠ 3
  | n + 1, x => x.f0 = 3 → x.f3.length ≤ 511 ∧ ∀ y ∈ x.f3, Fit n y

def Marked (n : Nat) (x : S27) (w : World) (e : Ending) (w' : World) : Prop :=
  ∃ m : Mk, MarkOf x m ∧ m.deep ≤ n ∧ e = .returned m.val ∧ Ex (fun _ => False) w w'

theorem marked_mk {n : Nat} {x : S27} {w w' : World} {v : Value} (m : Mk) (h1 : MarkOf x m) (h2 : m.deep ≤ n) (h3 : v = m.val) (h4 : Ex (fun _ => False) w w') : Marked n x w (.returned v) w' := by
  subst h3; exact ⟨m, h1, h2, rfl, h4⟩

abbrev SPEC (n : Nat) (x : S27) (w : World) (A : Option Addr) (c : Nat) : Prop :=
  Calls Try.prog 41 #[.agg #[.int .u8 x.f0, .int .i64 x.f1, .string x.f2, .slice A x.f3.length c, .int .i64 x.f4]] w (Marked n x w)

set_option maxHeartbeats 400000 in
theorem mark_1 (n : Nat) (x : S27) (A : Option Addr) (c : Nat) (w : World) (hk : x.f0 = 1) : SPEC n x w A c := by
  have HK := Aside0.mk hk
  unfold SPEC
  rw [hk]
  clear hk
  go_enter Try.func41, Try.ntmps41
  go_wp2
  go_ret
  exact marked_mk (.number x.f1) ⟨HK.out, rfl⟩ (Nat.zero_le _) rfl ((Ex.refl _ _).alloc _)
set_option maxHeartbeats 400000 in
theorem mark_2 (n : Nat) (x : S27) (A : Option Addr) (c : Nat) (w : World) (hk : x.f0 = 2) : SPEC n x w A c := by
  have HK := Aside0.mk hk
  unfold SPEC
  rw [hk]
  clear hk
  go_enter Try.func41, Try.ntmps41
  go_wp2
  go_ret
  exact marked_mk (.text x.f2) ⟨HK.out, rfl⟩ (Nat.zero_le _) rfl ((Ex.refl _ _).alloc _)
set_option maxHeartbeats 400000 in
theorem mark_4 (n : Nat) (x : S27) (A : Option Addr) (c : Nat) (w : World) (hk : x.f0 = 4) : SPEC n x w A c := by
  have HK := Aside0.mk hk
  unfold SPEC
  rw [hk]
  clear hk
  go_enter Try.func41, Try.ntmps41
  go_wp2
  go_ret
  exact marked_mk (.refer x.f4) ⟨HK.out, rfl⟩ (Nat.zero_le _) rfl ((Ex.refl _ _).alloc _)
set_option maxHeartbeats 400000 in
theorem mark_0 (n : Nat) (x : S27) (A : Option Addr) (c : Nat) (w : World) (h1 : x.f0 ≠ 1) (h2 : x.f0 ≠ 2) (h4 : x.f0 ≠ 4) (h3 : x.f0 ≠ 3) : SPEC n x w A c := by
  have HK := Aside0.mk (And.intro h1 (And.intro h2 (And.intro h4 h3)))
  have b1 : (x.f0 == 1) = false := by simp; omega
  have b2 : (x.f0 == 2) = false := by simp; omega
  have b4 : (x.f0 == 4) = false := by simp; omega
  have b3 : (x.f0 == 3) = false := by simp; omega
  clear h1 h2 h3 h4
  unfold SPEC
  go_enter Try.func41, Try.ntmps41
  go_wp2
  go_ret
  exact marked_mk .nothing HK.out (Nat.zero_le _) rfl ((Ex.refl _ _).alloc _)

theorem spot_none {w : World} {a : Addr} {v : Value} (h : w.cell? a = some v) : a = ⟨a.block, a.off, none⟩ := by
  obtain ⟨b, o, s⟩ := a
  cases s with
  | none => rfl
  | some s =>
    simp only [World.cell?] at h
    split at h <;> simp at h

/-- what the two calls find, and leave -/
def PairS (w : World) (B : Obj) (ab ao : Nat) (c : Nat) (A3 B3 : Option Addr) (c3 d3 : Nat) (x y z : S27) (w' : World) : Prop :=
  Ex (fun _ => False) (w.alloc B) w' ∧ w'.cell? ⟨w.heap.size, 3, none⟩ = some (.slice (some ⟨ab, ao, none⟩) x.f3.length c) ∧
    w'.cell? ⟨ab, ao, none⟩ = some (.int .u8 y.f0) ∧ w'.cell? ⟨ab, ao + 1, none⟩ = some (.int .i64 y.f1) ∧ w'.cell? ⟨ab, ao + 2, none⟩ = some (.string y.f2) ∧ w'.cell? ⟨ab, ao + 3, none⟩ = some (.slice A3 y.f3.length c3) ∧ w'.cell? ⟨ab, ao + 4, none⟩ = some (.int .i64 y.f4) ∧
    w'.cell? ⟨ab, ao + 5, none⟩ = some (.int .u8 z.f0) ∧ w'.cell? ⟨ab, ao + 5 + 1, none⟩ = some (.int .i64 z.f1) ∧ w'.cell? ⟨ab, ao + 5 + 2, none⟩ = some (.string z.f2) ∧ w'.cell? ⟨ab, ao + 5 + 3, none⟩ = some (.slice B3 z.f3.length d3) ∧ w'.cell? ⟨ab, ao + 5 + 4, none⟩ = some (.int .i64 z.f4)

set_option maxRecDepth 100000 in
set_option maxHeartbeats 2000000 in
theorem mark_pair (n : Nat) (x : S27) (A : Option Addr) (c : Nat) (w : World) (ok : Nat → Prop) (hk : x.f0 = 3) (hl : x.f3.length = 2) (hF : Kd.F k27 w ok A x.f3.length x.f3)
    (ih : ∀ y ∈ x.f3, ∀ (A : Option Addr) (c : Nat) (w : World), Kd.F k27 w ok A y.f3.length y.f3 → SPEC n y w A c) : SPEC (n + 1) x w A c := by
  have HK := Aside0.mk hk
  have hl0 : ((x.f3.length : Int) == 2) = true := by simp; omega
  obtain ⟨ad, A3, c3, rfl, e0, e1, e2, e3, e4, hc3, hF3⟩ := at_F27 hF 0 (by omega)
  obtain ⟨ad', B3, d3, had, f0, f1, f2, f3, f4, hd3, hG3⟩ := at_F27 hF 1 (by omega)
  cases had
  have hsp := spot_none e0
  rw [show (0 * 5 : Nat) = 0 from rfl, Addr.add, if_pos rfl] at e0 e1 e2 e3 e4 hsp
  rw [show (1 * 5 : Nat) = 5 from rfl, Addr.add, if_neg (by omega)] at f0 f1 f2 f3 f4
  obtain ⟨ab, ao, asp⟩ := ad
  injection hsp with _ _ hsp
  subst hsp
  dsimp only at e0 e1 e2 e3 e4 f0 f1 f2 f3 f4
  have IH0 := Aside0.mk (ih (rd_T27 x.f3 (0 : Nat)) (rd_mem (by omega)))
  have IH1 := Aside0.mk (ih (rd_T27 x.f3 (1 : Nat)) (rd_mem (by omega)))
  have HXS : x.f3 = [rd_T27 x.f3 (0 : Nat), rd_T27 x.f3 (1 : Nat)] := by
    have h0 := rd_drop (xs := x.f3) (i := 0) (by omega)
    have h1 := rd_drop (xs := x.f3) (i := 1) (by omega)
    have h2 : x.f3.drop 2 = [] := by simp; omega
    rw [List.drop_zero, h1, h2] at h0
    exact h0
  have HXS' := Aside0.mk HXS
  have hlt0 : ab < w.heap.size := World.block_lt_of_cell? w _ e0
  have HF3 := Aside0.mk hF3
  have HG3 := Aside0.mk hG3
  generalize rd_T27 x.f3 (0 : Nat) = y at *
  generalize rd_T27 x.f3 (1 : Nat) = z at *
  have hi0 : 0 < x.f3.length := by omega
  have hi1 : 1 < x.f3.length := by omega
  have hi2 : (1 : Int) < (x.f3.length : Int) := by omega
  clear hl hF ih hF3 hG3 HXS
  have HS : Aside0 (∀ w', Ex (fun _ => False) (w.alloc (.cells #[.int .u8 3, .int .i64 x.f1, .string x.f2, .slice (some ⟨ab, ao, none⟩) x.f3.length c, .int .i64 x.f4] 27)) w' → PairS w (.cells #[.int .u8 3, .int .i64 x.f1, .string x.f2, .slice (some ⟨ab, ao, none⟩) x.f3.length c, .int .i64 x.f4] 27) ab ao c A3 B3 c3 d3 x y z w') := ⟨fun w' h => by
    have hq : ∀ i v, w.cell? ⟨ab, i, none⟩ = some v → w'.cell? ⟨ab, i, none⟩ = some v := fun i v hv => by
      rw [h.cell (by simp; omega) (fun h => h)]
      have := (((Ex.refl (fun _ => False) w).alloc (.cells #[.int .u8 3, .int .i64 x.f1, .string x.f2, .slice (some ⟨ab, ao, none⟩) x.f3.length c, .int .i64 x.f4] 27)).cell hlt0 (fun h => h) i).trans hv
      exact this
    exact ⟨h, (blk_cell (h.blk (blk_new1 w _) (fun h => h)) 3).trans rfl, hq _ _ e0, hq _ _ e1, hq _ _ e2, hq _ _ e3, hq _ _ e4, hq _ _ f0, hq _ _ f1, hq _ _ f2, hq _ _ f3, hq _ _ f4⟩⟩
  unfold SPEC
  rw [hk]
  clear hk
  go_enter Try.func41, Try.ntmps41
  go_wp2
  go_region_held3 (fun w' => Ex (fun _ => False) (w.alloc (.cells #[.int .u8 3, .int .i64 x.f1, .string x.f2, .slice (some ⟨ab, ao, none⟩) x.f3.length c, .int .i64 x.f4] 27)) w' ∧ w'.cell? ⟨w.heap.size, 3, none⟩ = some (.slice (some ⟨ab, ao, none⟩) x.f3.length c) ∧
    w'.cell? ⟨ab, ao, none⟩ = some (.int .u8 y.f0) ∧ w'.cell? ⟨ab, ao + 1, none⟩ = some (.int .i64 y.f1) ∧ w'.cell? ⟨ab, ao + 2, none⟩ = some (.string y.f2) ∧ w'.cell? ⟨ab, ao + 3, none⟩ = some (.slice A3 y.f3.length c3) ∧ w'.cell? ⟨ab, ao + 4, none⟩ = some (.int .i64 y.f4) ∧
    w'.cell? ⟨ab, ao + 5, none⟩ = some (.int .u8 z.f0) ∧ w'.cell? ⟨ab, ao + 5 + 1, none⟩ = some (.int .i64 z.f1) ∧ w'.cell? ⟨ab, ao + 5 + 2, none⟩ = some (.string z.f2) ∧ w'.cell? ⟨ab, ao + 5 + 3, none⟩ = some (.slice B3 z.f3.length d3) ∧ w'.cell? ⟨ab, ao + 5 + 4, none⟩ = some (.int .i64 z.f4))
    ((first | exact HS.out _ (Ex.drew (Ex.refl _ _)) | exact HS.out _ (by assumption)))
    (first
      | (go_at_call_of 41 (Value.agg #[Value.int IntKind.u8 y.f0, Value.int IntKind.i64 y.f1, Value.string y.f2, Value.slice A3 y.f3.length c3, Value.int IntKind.i64 y.f4]); refine (IH0.out A3 c3 _ ?_).mono ?_; exact Kd.F_drew (Kd.F_alloc HF3.out _); rintro e w1 ⟨m, h1, h2, rfl, h4⟩; obtain ⟨t1, u1, hu1⟩ := m.val_iface; rw [hu1]; have HU1 := Aside0.mk hu1; clear hu1; have hx1 := Ex.trans (Ex.drew (Ex.refl (fun _ => False) _)) h4 (fun _ h => h.elim); have H1 := Aside0.mk h1; have H2 := Aside0.mk h2; clear h1 h2 h4)
      | (go_at_call_of 41 (Value.agg #[Value.int IntKind.u8 z.f0, Value.int IntKind.i64 z.f1, Value.string z.f2, Value.slice B3 z.f3.length d3, Value.int IntKind.i64 z.f4]); refine (IH1.out B3 d3 _ ?_).mono ?_; exact ex_F hx1 (Kd.F_alloc HG3.out _) (fun _ _ h => h); rintro e w2 ⟨m2, k1, k2, rfl, k4⟩; obtain ⟨t2, u2, hu2⟩ := m2.val_iface; rw [hu2]; have HU2 := Aside0.mk hu2; clear hu2; have hx2 := Ex.trans hx1 k4 (fun _ h => h.elim); have K1 := Aside0.mk k1; have K2 := Aside0.mk k2; clear k1 k2 k4))
  go_wp2
  go_ret
  refine marked_mk (.pair m m2) ⟨HK.out, y, z, HXS'.out, H1.out, K1.out⟩ ?_ (by rw [Mk.val, HU1.out, HU2.out]; rfl) (((Ex.refl _ _).alloc _).trans hx2 (fun _ h => h.elim))
  have h1 := H2.out
  have h2 := K2.out
  simp only [Mk.deep]
  omega

end Go.Proofs.Ythkemcekcfccpaa.PBrandCompares
