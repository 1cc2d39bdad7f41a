/-
  The Go function 'mark' of package brand makes a value's mark.
  A row of the call's own (ownsRow) over calls (Ex), and one element more behind it, as a step of a region that draws, and as one of a plain region.
  The Go function 'mark' of package brand at a list that is no pair; the whole contract.
  'mark' at every value that May admits.
  'met' of package brand: a call that may meet the machine's own panic (met$1 deferred, recover).
  'key' of package brand: which marks can be keys.
  Tables of package brand: none, New, find.
-/
import Derived.Test.YthkemcekcfccpaaBrandComparesR2M0
import Derived.Deep.RegionHeld3
import Derived.Test.YthkemcekcfccpaaPBrandComparesx0
import Derived.RangeFuncBox
import Derived.Deep.RegionLaw
import Derived.Defers
import Derived.Recover
namespace Go.Proofs.Ythkemcekcfccpaa.PBrandCompares
open Go.RowKit Go.Proofs.YthkemcekcfccpaaW.PrintWords Go.Proofs.YthkemcekcfccpaaW.PrintLast Go.Proofs.YthkemcekcfccpaaW.PrintMore
open Go.Proofs.Ythkemcekcfccpaa.GBrandCompares
set_option linter.unusedVariables false
set_option linter.unusedSimpArgs false

/-- nested at most so deep, and no list longer than 511 -/
def Fit : Nat → S27 → Prop
  | 0, x => x.f0 ≠ 3
  | n + 1, x => x.f0 = 3 → x.f3.length ≤ 511 ∧ ∀ y ∈ x.f3, Fit n y

def Marked (n : Nat) (x : S27) (w : World) (e : Ending) (w' : World) : Prop :=
  ∃ m : Mk, MarkOf x m ∧ m.deep ≤ n ∧ e = .returned m.val ∧ Ex (fun _ => False) w w'

theorem marked_mk {n : Nat} {x : S27} {w w' : World} {v : Value} (m : Mk) (h1 : MarkOf x m) (h2 : m.deep ≤ n) (h3 : v = m.val) (h4 : Ex (fun _ => False) w w') : Marked n x w (.returned v) w' := by
  subst h3; exact ⟨m, h1, h2, rfl, h4⟩

abbrev SPEC (n : Nat) (x : S27) (w : World) (A : Option Addr) (c : Nat) : Prop :=
  Calls Try.prog 41 #[.agg #[.int .u8 x.f0, .int .i64 x.f1, .string x.f2, .slice A x.f3.length c, .int .i64 x.f4]] w (Marked n x w)

set_option maxHeartbeats 400000 in
theorem mark_1 (n : Nat) (x : S27) (A : Option Addr) (c : Nat) (w : World) (hk : x.f0 = 1) : SPEC n x w A c := by
  have HK := Aside0.mk hk
  unfold SPEC
  rw [hk]
  clear hk
  go_enter Try.func41, Try.ntmps41
  go_wp2
  go_ret
  exact marked_mk (.number x.f1) ⟨HK.out, rfl⟩ (Nat.zero_le _) rfl ((Ex.refl _ _).alloc _)
set_option maxHeartbeats 400000 in
theorem mark_2 (n : Nat) (x : S27) (A : Option Addr) (c : Nat) (w : World) (hk : x.f0 = 2) : SPEC n x w A c := by
  have HK := Aside0.mk hk
  unfold SPEC
  rw [hk]
  clear hk
  go_enter Try.func41, Try.ntmps41
  go_wp2
  go_ret
  exact marked_mk (.text x.f2) ⟨HK.out, rfl⟩ (Nat.zero_le _) rfl ((Ex.refl _ _).alloc _)
set_option maxHeartbeats 400000 in
theorem mark_4 (n : Nat) (x : S27) (A : Option Addr) (c : Nat) (w : World) (hk : x.f0 = 4) : SPEC n x w A c := by
  have HK := Aside0.mk hk
  unfold SPEC
  rw [hk]
  clear hk
  go_enter Try.func41, Try.ntmps41
  go_wp2
  go_ret
  exact marked_mk (.refer x.f4) ⟨HK.out, rfl⟩ (Nat.zero_le _) rfl ((Ex.refl _ _).alloc _)
set_option maxHeartbeats 400000 in
theorem mark_0 (n : Nat) (x : S27) (A : Option Addr) (c : Nat) (w : World) (h1 : x.f0 ≠ 1) (h2 : x.f0 ≠ 2) (h4 : x.f0 ≠ 4) (h3 : x.f0 ≠ 3) : SPEC n x w A c := by
  have HK := Aside0.mk (And.intro h1 (And.intro h2 (And.intro h4 h3)))
  have b1 : (x.f0 == 1) = false := by simp; omega
  have b2 : (x.f0 == 2) = false := by simp; omega
  have b4 : (x.f0 == 4) = false := by simp; omega
  have b3 : (x.f0 == 3) = false := by simp; omega
  clear h1 h2 h3 h4
  unfold SPEC
  go_enter Try.func41, Try.ntmps41
  go_wp2
  go_ret
  exact marked_mk .nothing HK.out (Nat.zero_le _) rfl ((Ex.refl _ _).alloc _)

theorem spot_none {w : World} {a : Addr} {v : Value} (h : w.cell? a = some v) : a = ⟨a.block, a.off, none⟩ := by
  obtain ⟨b, o, s⟩ := a
  cases s with
  | none => rfl
  | some s =>
    simp only [World.cell?] at h
    split at h <;> simp at h

/-- what the two calls find, and leave -/
def PairS (w : World) (B : Obj) (ab ao : Nat) (c : Nat) (A3 B3 : Option Addr) (c3 d3 : Nat) (x y z : S27) (w' : World) : Prop :=
  Ex (fun _ => False) (w.alloc B) w' ∧ w'.cell? ⟨w.heap.size, 3, none⟩ = some (.slice (some ⟨ab, ao, none⟩) x.f3.length c) ∧
    w'.cell? ⟨ab, ao, none⟩ = some (.int .u8 y.f0) ∧ w'.cell? ⟨ab, ao + 1, none⟩ = some (.int .i64 y.f1) ∧ w'.cell? ⟨ab, ao + 2, none⟩ = some (.string y.f2) ∧ w'.cell? ⟨ab, ao + 3, none⟩ = some (.slice A3 y.f3.length c3) ∧ w'.cell? ⟨ab, ao + 4, none⟩ = some (.int .i64 y.f4) ∧
    w'.cell? ⟨ab, ao + 5, none⟩ = some (.int .u8 z.f0) ∧ w'.cell? ⟨ab, ao + 5 + 1, none⟩ = some (.int .i64 z.f1) ∧ w'.cell? ⟨ab, ao + 5 + 2, none⟩ = some (.string z.f2) ∧ w'.cell? ⟨ab, ao + 5 + 3, none⟩ = some (.slice B3 z.f3.length d3) ∧ w'.cell? ⟨ab, ao + 5 + 4, none⟩ = some (.int .i64 z.f4)

set_option maxRecDepth 100000 in
set_option maxHeartbeats 2000000 in
theorem mark_pair (n : Nat) (x : S27) (A : Option Addr) (c : Nat) (w : World) (ok : Nat → Prop) (hk : x.f0 = 3) (hl : x.f3.length = 2) (hF : Kd.F k27 w ok A x.f3.length x.f3)
    (ih : ∀ y ∈ x.f3, ∀ (A : Option Addr) (c : Nat) (w : World), Kd.F k27 w ok A y.f3.length y.f3 → SPEC n y w A c) : SPEC (n + 1) x w A c := by
  have HK := Aside0.mk hk
  have hl0 : ((x.f3.length : Int) == 2) = true := by simp; omega
  obtain ⟨ad, A3, c3, rfl, e0, e1, e2, e3, e4, hc3, hF3⟩ := at_F27 hF 0 (by omega)
  obtain ⟨ad', B3, d3, had, f0, f1, f2, f3, f4, hd3, hG3⟩ := at_F27 hF 1 (by omega)
  cases had
  have hsp := spot_none e0
  rw [show (0 * 5 : Nat) = 0 from rfl, Addr.add, if_pos rfl] at e0 e1 e2 e3 e4 hsp
  rw [show (1 * 5 : Nat) = 5 from rfl, Addr.add, if_neg (by omega)] at f0 f1 f2 f3 f4
  obtain ⟨ab, ao, asp⟩ := ad
  injection hsp with _ _ hsp
  subst hsp
  dsimp only at e0 e1 e2 e3 e4 f0 f1 f2 f3 f4
  have IH0 := Aside0.mk (ih (rd_T27 x.f3 (0 : Nat)) (rd_mem (by omega)))
  have IH1 := Aside0.mk (ih (rd_T27 x.f3 (1 : Nat)) (rd_mem (by omega)))
  have HXS : x.f3 = [rd_T27 x.f3 (0 : Nat), rd_T27 x.f3 (1 : Nat)] := by
    have h0 := rd_drop (xs := x.f3) (i := 0) (by omega)
    have h1 := rd_drop (xs := x.f3) (i := 1) (by omega)
    have h2 : x.f3.drop 2 = [] := by simp; omega
    rw [List.drop_zero, h1, h2] at h0
    exact h0
  have HXS' := Aside0.mk HXS
  have hlt0 : ab < w.heap.size := World.block_lt_of_cell? w _ e0
  have HF3 := Aside0.mk hF3
  have HG3 := Aside0.mk hG3
  generalize rd_T27 x.f3 (0 : Nat) = y at *
  generalize rd_T27 x.f3 (1 : Nat) = z at *
  have hi0 : 0 < x.f3.length := by omega
  have hi1 : 1 < x.f3.length := by omega
  have hi2 : (1 : Int) < (x.f3.length : Int) := by omega
  clear hl hF ih hF3 hG3 HXS
  have HS : Aside0 (∀ w', Ex (fun _ => False) (w.alloc (.cells #[.int .u8 3, .int .i64 x.f1, .string x.f2, .slice (some ⟨ab, ao, none⟩) x.f3.length c, .int .i64 x.f4] 27)) w' → PairS w (.cells #[.int .u8 3, .int .i64 x.f1, .string x.f2, .slice (some ⟨ab, ao, none⟩) x.f3.length c, .int .i64 x.f4] 27) ab ao c A3 B3 c3 d3 x y z w') := ⟨fun w' h => by
    have hq : ∀ i v, w.cell? ⟨ab, i, none⟩ = some v → w'.cell? ⟨ab, i, none⟩ = some v := fun i v hv => by
      rw [h.cell (by simp; omega) (fun h => h)]
      have := (((Ex.refl (fun _ => False) w).alloc (.cells #[.int .u8 3, .int .i64 x.f1, .string x.f2, .slice (some ⟨ab, ao, none⟩) x.f3.length c, .int .i64 x.f4] 27)).cell hlt0 (fun h => h) i).trans hv
      exact this
    exact ⟨h, (blk_cell (h.blk (blk_new1 w _) (fun h => h)) 3).trans rfl, hq _ _ e0, hq _ _ e1, hq _ _ e2, hq _ _ e3, hq _ _ e4, hq _ _ f0, hq _ _ f1, hq _ _ f2, hq _ _ f3, hq _ _ f4⟩⟩
  unfold SPEC
  rw [hk]
  clear hk
  go_enter Try.func41, Try.ntmps41
  go_wp2
  go_region_held3 (fun w' => Ex (fun _ => False) (w.alloc (.cells #[.int .u8 3, .int .i64 x.f1, .string x.f2, .slice (some ⟨ab, ao, none⟩) x.f3.length c, .int .i64 x.f4] 27)) w' ∧ w'.cell? ⟨w.heap.size, 3, none⟩ = some (.slice (some ⟨ab, ao, none⟩) x.f3.length c) ∧
    w'.cell? ⟨ab, ao, none⟩ = some (.int .u8 y.f0) ∧ w'.cell? ⟨ab, ao + 1, none⟩ = some (.int .i64 y.f1) ∧ w'.cell? ⟨ab, ao + 2, none⟩ = some (.string y.f2) ∧ w'.cell? ⟨ab, ao + 3, none⟩ = some (.slice A3 y.f3.length c3) ∧ w'.cell? ⟨ab, ao + 4, none⟩ = some (.int .i64 y.f4) ∧
    w'.cell? ⟨ab, ao + 5, none⟩ = some (.int .u8 z.f0) ∧ w'.cell? ⟨ab, ao + 5 + 1, none⟩ = some (.int .i64 z.f1) ∧ w'.cell? ⟨ab, ao + 5 + 2, none⟩ = some (.string z.f2) ∧ w'.cell? ⟨ab, ao + 5 + 3, none⟩ = some (.slice B3 z.f3.length d3) ∧ w'.cell? ⟨ab, ao + 5 + 4, none⟩ = some (.int .i64 z.f4))
    ((first | exact HS.out _ (Ex.drew (Ex.refl _ _)) | exact HS.out _ (by assumption)))
    (first
      | (go_at_call_of 41 (Value.agg #[Value.int IntKind.u8 y.f0, Value.int IntKind.i64 y.f1, Value.string y.f2, Value.slice A3 y.f3.length c3, Value.int IntKind.i64 y.f4]); refine (IH0.out A3 c3 _ ?_).mono ?_; exact Kd.F_drew (Kd.F_alloc HF3.out _); rintro e w1 ⟨m, h1, h2, rfl, h4⟩; obtain ⟨t1, u1, hu1⟩ := m.val_iface; rw [hu1]; have HU1 := Aside0.mk hu1; clear hu1; have hx1 := Ex.trans (Ex.drew (Ex.refl (fun _ => False) _)) h4 (fun _ h => h.elim); have H1 := Aside0.mk h1; have H2 := Aside0.mk h2; clear h1 h2 h4)
      | (go_at_call_of 41 (Value.agg #[Value.int IntKind.u8 z.f0, Value.int IntKind.i64 z.f1, Value.string z.f2, Value.slice B3 z.f3.length d3, Value.int IntKind.i64 z.f4]); refine (IH1.out B3 d3 _ ?_).mono ?_; exact ex_F hx1 (Kd.F_alloc HG3.out _) (fun _ _ h => h); rintro e w2 ⟨m2, k1, k2, rfl, k4⟩; obtain ⟨t2, u2, hu2⟩ := m2.val_iface; rw [hu2]; have HU2 := Aside0.mk hu2; clear hu2; have hx2 := Ex.trans hx1 k4 (fun _ h => h.elim); have K1 := Aside0.mk k1; have K2 := Aside0.mk k2; clear k1 k2 k4))
  go_wp2
  go_ret
  refine marked_mk (.pair m m2) ⟨HK.out, y, z, HXS'.out, H1.out, K1.out⟩ ?_ (by rw [Mk.val, HU1.out, HU2.out]; rfl) (((Ex.refl _ _).alloc _).trans hx2 (fun _ h => h.elim))
  have h1 := H2.out
  have h2 := K2.out
  simp only [Mk.deep]
  omega

end Go.Proofs.Ythkemcekcfccpaa.PBrandCompares

namespace Go.Proofs.Ythkemcekcfccpaa.GBrandCompares
open Go.RowKit Go.Proofs.YthkemcekcfccpaaW.PrintWords
set_option linter.unusedVariables false

theorem mine_ex {S : Nat → Prop} {w w1 : World} {base size n : Nat} {e : TypeId} {v : Value} {xs : List Value} (h : w.ownsRow base e size v n xs) (hx : Ex S w w1) (hs : ∀ b, S b → some b ≠ v.ownBlock) : w1.ownsRow base e size v n xs := by
  refine ⟨h.1, ?_⟩
  rcases h.2 with hn | ⟨g, cap, cur, rfl, hb, hg, rest⟩
  · exact .inl hn
  · exact .inr ⟨g, cap, cur, rfl, hb, hx.blk hg (fun h1 => hs g h1 rfl), rest⟩
theorem mine_ex0 {w w1 : World} {base size n : Nat} {e : TypeId} {v : Value} {xs : List Value} (h : w.ownsRow base e size v n xs) (hx : Ex (fun _ => False) w w1) : w1.ownsRow base e size v n xs :=
  mine_ex h hx (fun _ h => h.elim)
theorem mine_ne {w : World} {base size n b : Nat} {e T : TypeId} {v : Value} {xs : List Value} {cs : Array Value} {fz : Nat × Nat} (h : w.ownsRow base e size v n xs) (hb : w.heap[b]? = some (.cells cs T fz)) (hT : T ≠ e) : some b ≠ v.ownBlock := by
  intro e1
  rcases h.2 with ⟨rfl, _⟩ | ⟨g, cap, cur, rfl, _, hg, _⟩
  · simp [Value.ownBlock] at e1
  · simp only [Value.ownBlock, Option.some.injEq] at e1
    subst e1
    rw [hg] at hb
    simp at hb
    exact hT hb.2.1.symm
theorem mine_ne' {w : World} {base size n b : Nat} {e : TypeId} {v : Value} {xs : List Value} {o : Obj} (h : w.ownsRow base e size v n xs) (hb : w.heap[b]? = some o) (ho : o.isCells = false) : some b ≠ v.ownBlock := by
  intro e1
  rcases h.2 with ⟨rfl, _⟩ | ⟨g, cap, cur, rfl, _, hg, _⟩
  · simp [Value.ownBlock] at e1
  · simp only [Value.ownBlock, Option.some.injEq] at e1
    subst e1
    rw [hg] at hb
    cases hb
    simp [Obj.isCells] at ho
theorem mine_base {w : World} {base size n b : Nat} {e : TypeId} {v : Value} {xs : List Value} (h : w.ownsRow base e size v n xs) (hb : some b = v.ownBlock) : base ≤ b := by
  rcases h.2 with ⟨rfl, _⟩ | ⟨g, cap, cur, rfl, hg, _⟩
  · simp [Value.ownBlock] at hb
  · simp only [Value.ownBlock, Option.some.injEq] at hb
    omega
theorem mine_form {w : World} {base size n : Nat} {e : TypeId} {v : Value} {xs : List Value} (h : w.ownsRow base e size v (n + 1) xs) : ∃ g cap, v = .slice (some ⟨g, 0, none⟩) (n + 1) cap ∧ base ≤ g ∧ g < w.heap.size ∧ n + 1 ≤ cap := by
  rcases h.2 with ⟨_, h0⟩ | ⟨g, cap, cur, rfl, hb, hg, hn, _⟩
  · omega
  · exact ⟨g, cap, rfl, hb, lt_of_blk hg, hn⟩

section
variable {P : Program} {w : World} {Q : Exit → Act → World → Prop} {a : Act} {o : Oper}
theorem wp_push {K : Act → World → Prop} (s x : Operand) (t : TypeId) (ho : o.op = .call { callee := .builtin .append, args := #[s, x], argTypes := #[t, t] })
    (base : Nat) (e : TypeId) (i : TypeInfo) (z : Value) (bytes : Nat) (ht : P.underlying t = some (.slice e)) (hi : P.info? e = some i) (hz : i.zero = some z) (hsize : i.size = 1) (hby : i.bytes = bytes) (hzs : z.cells.size = 1)
    (v u : Value) (T : TypeId) (n : Nat) (xs : List Value) (hs : a.eval s = v) (hx : a.eval x = .slice (some ⟨w.heap.size, 0, none⟩) 1 1) (hown : w.ownsRow base e 1 v n xs) (hu : u.oneCell' = true)
    (h63 : n + 1 ≤ maxLen) (hbytes : (n + 1) * bytes ≤ 140737488355328) (hbase : base ≤ w.heap.size)
    (h : ∀ v' w', w'.ownsRow base e 1 v' (n + 1) (xs ++ [u]) → Ex (fun b => some b = v.ownBlock) (w.alloc (.cells #[u] T)) w' → K (a.put o.dst v') w') : o.wp P a (w.alloc (.cells #[u] T)) K Q := by
  refine wp_append_own (w.alloc (.cells #[u] T)) s x t ho base e i z 1 bytes ht hi hz hsize hby hzs (by omega) v n xs hs (mine_ex0 hown ((Ex.refl _ _).alloc _)) ⟨w.heap.size, 0, none⟩ 1 1 [u] hx rfl ?_ ?_ h63 hbytes (Nat.le_trans hbase (by simp)) ?_
  · intro j y hj
    cases j with
    | zero =>
      simp at hj
      subst hj
      rw [Addr.add, if_pos rfl]
      exact (blk_cell (blk_new1 w _) 0).trans rfl
    | succ j => simp at hj
  · simpa using hu
  · intro v' w' h1 h2 _
    exact h v' w' h1 ⟨h2.os, h2.tape, h2.output, h2.size, fun b hb hn => h2.block b hb hn⟩
/-- as a step of a region that draws -/
theorem step_push {ops : Array Oper} {E : Prop} {K : Act → World → Prop} (hg : o.guard = none) (s x : Operand) (t : TypeId) (ho : o.op = .call { callee := .builtin .append, args := #[s, x], argTypes := #[t, t] })
    (base : Nat) (e : TypeId) (i : TypeInfo) (z : Value) (bytes : Nat) (ht : P.underlying t = some (.slice e)) (hi : P.info? e = some i) (hz : i.zero = some z) (hsize : i.size = 1) (hby : i.bytes = bytes) (hzs : z.cells.size = 1)
    (v u : Value) (T : TypeId) (n : Nat) (xs : List Value) (hs : a.eval s = v) (hx : a.eval x = .slice (some ⟨w.heap.size, 0, none⟩) 1 1) (hown : w.ownsRow base e 1 v n xs) (hu : u.oneCell' = true)
    (h63 : n + 1 ≤ maxLen) (hbytes : (n + 1) * bytes ≤ 140737488355328) (hbase : base ≤ w.heap.size)
    (h : ∀ v' w', w'.ownsRow base e 1 v' (n + 1) (xs ++ [u]) → Ex (fun b => some b = v.ownBlock) (w.alloc (.cells #[u] T)) w' → K (a.put o.dst v') w') :
    if Region.wanted o (yielded ops a.tmps) = true then Oper.wp P o a (w.alloc (.cells #[u] T)) K Q else E := by
  have hw : Region.wanted o (yielded ops a.tmps) = true := by simp [Region.wanted, hg]
  rw [if_pos hw]
  exact wp_push s x t ho base e i z bytes ht hi hz hsize hby hzs v u T n xs hs hx hown hu h63 hbytes hbase h
end

end Go.Proofs.Ythkemcekcfccpaa.GBrandCompares

namespace Go.Proofs.Ythkemcekcfccpaa.PBrandCompares
open Go.RowKit Go.Proofs.YthkemcekcfccpaaW.PrintWords Go.Proofs.YthkemcekcfccpaaW.PrintLast Go.Proofs.YthkemcekcfccpaaW.PrintMore
open Go.Proofs.Ythkemcekcfccpaa.GBrandCompares
set_option linter.unusedVariables false
set_option linter.unusedSimpArgs false

theorem info45 : (Try.prog.info? 45).map (fun i => (i.zero, i.size, i.bytes)) = some (some .nilIface, 1, 16) := by kernel_rfl

set_option maxRecDepth 100000 in
set_option maxHeartbeats 2000000 in
theorem mark_row (n : Nat) (x : S27) (A : Option Addr) (c : Nat) (w : World) (ok : Nat → Prop) (hk : x.f0 = 3) (hl : x.f3.length ≠ 2) (hl2 : x.f3.length ≤ 511) (hF : Kd.F k27 w ok A x.f3.length x.f3)
    (ih : ∀ y ∈ x.f3, ∀ (A : Option Addr) (c : Nat) (w : World), Kd.F k27 w ok A y.f3.length y.f3 → SPEC n y w A c) : SPEC (n + 1) x w A c := by
  have HK := Aside0.mk (And.intro hk hl)
  have hl0 : ((x.f3.length : Int) == 2) = false := by simp; omega
  have HF := Aside0.mk hF
  have IH := Aside0.mk ih
  obtain ⟨i0, hi, hz0, hz1, hz2⟩ := info_parts info45
  have HI := Aside0.mk (And.intro hi (And.intro hz0 (And.intro hz1 hz2)))
  clear hl hF ih hi hz0 hz1 hz2
  unfold SPEC
  rw [hk]
  clear hk
  go_enter Try.func41, Try.ntmps41
  go_wp2
  go_loopg [44] x.f3.length (fun m v wr => ∃ (k : Nat) (vs : Value) (xs : List Value), v = .int .i64 k ∧ Aside0 (k + m = x.f3.length) ∧ Aside0 (Ex (fun _ => False) w wr) ∧
    Aside0 (wr.heap[w.heap.size + 1]? = some (.cells #[vs] 103 (0, 0))) ∧ Aside0 (wr.ownsRow w.heap.size 45 1 vs k xs))
  case atStart =>
    exact ⟨0, .slice none 0 0, [], rfl, ⟨by omega⟩, ⟨((Ex.refl _ _).alloc _).alloc _⟩, ⟨blk_new2 _ _ _⟩, ⟨by simp [World.ownsRow]⟩⟩
  case round =>
    obtain ⟨k, vs, xs, rfl, HM, HX, HB, HO⟩ := hrel
    by_cases hk : k < x.f3.length
    · have hF2 := ex_F HX.out HF.out (fun _ _ h => h)
      obtain ⟨ad, A3, c3, rfl, e0, e1, e2, e3, e4, hc3, hF3⟩ := at_F27 hF2 k hk
      have HF3 := Aside0.mk hF3
      clear hF2 hF3
      have hb0 : wr.cell? ⟨w.heap.size + 1, 0, none⟩ = some vs := (blk_cell HB.out 0).trans rfl
      have hbf := blk_frozen HB.out 0
      have hbl := lt_of_blk HB.out
      have hkk : (k : Int) < (x.f3.length : Int) := by omega
      have hkb : (k : Int) < 511 := by omega
      go_wp2
      go_region_law (first
        | (refine goes_ Try.func41 (by kernel_rfl) rfl #[.agg #[.int .u8 (rd_T27 x.f3 k).f0, .int .i64 (rd_T27 x.f3 k).f1, .string (rd_T27 x.f3 k).f2, .slice A3 (rd_T27 x.f3 k).f3.length c3, .int .i64 (rd_T27 x.f3 k).f4]] (by rfl) rfl rfl (by (try simp only [List.map_toArray, List.map_cons, List.map_nil]); first | done | rfl) ?_; refine (IH.out (rd_T27 x.f3 k) (rd_mem hk) A3 c3 _ ?_).mono ?_; (first | exact Kd.F_drew (Kd.F_alloc HF3.out _) | exact Kd.F_alloc HF3.out _); rintro e w1 ⟨m, h1, h2, rfl, h4⟩; obtain ⟨t1, u1, hu1⟩ := m.val_iface; refine ⟨_, rfl, ?_⟩; rw [hu1]; clear hu1 h1 h2; have HX1 := Aside0.mk h4; clear h4; have HB1 := Aside0.mk (HX1.out.blk (b := w.heap.size + 1) (blk_drew (blk_alloc HB.out _)) (fun h => h)); have hb1 := (blk_cell HB1.out 0).trans rfl; have hf1 := blk_frozen HB1.out 0; have hl1 := lt_of_blk HB1.out)
        | (refine step_push (by rfl) (.tmp 49) (.tmp 52) 101 (by rfl) w.heap.size 45 i0 .nilIface 16 Try.underlying101 HI.out.1 HI.out.2.1 HI.out.2.2.1 HI.out.2.2.2 (by rfl) vs (.iface t1 u1) 45 k xs (by rfl) (by rfl) (mine_ex0 (mine_ex0 HO.out (((Ex.refl _ _).alloc _).drew)) HX1.out) rfl (by simp [maxLen]; omega) (by omega) (by have := HX.out.size; have := HX1.out.size; simp at this; omega) ?_; intro v' w2 ho2 hx2; obtain ⟨g, cap, rfl, hg1, hg2, hg3⟩ := mine_form ho2; have HB2 := Aside0.mk (hx2.blk (blk_alloc HB1.out _) (mine_ne HO.out HB.out (by decide))); have HO2 := Aside0.mk ho2; have HX2 := Aside0.mk hx2; clear ho2 hx2; have hb2 := (blk_cell HB2.out 0).trans rfl; have hf2 := blk_frozen HB2.out 0; have hl2 := lt_of_blk HB2.out))
      all_goals
        clear hb1 hf1 hl1 hb2 hf2 hl2
        have HX3 := Aside0.mk (((((HX.out.alloc _).drew).trans HX1.out (fun _ h => h.elim)).alloc _).trans HX2.out (fun b hb => .inr (mine_base HO.out hb)))
        have HN3 := Aside0.mk (mine_ne HO2.out HB2.out (by decide))
        go_wp2
        go_roundg (gk - 1)
        case measure => have := HM.out; omega
        case rel =>
          exact ⟨k + 1, _, _, by go_num, ⟨by have := HM.out; omega⟩, ⟨HX3.out.set (p := ⟨w.heap.size + 1, 0, none⟩) (.inr (Nat.le_succ _)) _⟩, ⟨blk_put HB2.out 0 _ rfl⟩,
            ⟨mine_ex HO2.out ((Ex.refl (fun b => b = w.heap.size + 1) _).set (p := ⟨w.heap.size + 1, 0, none⟩) (.inl rfl) _) (fun b hb => by rw [hb]; exact HN3.out)⟩⟩
    · have hb0 : wr.cell? ⟨w.heap.size + 1, 0, none⟩ = some vs := (blk_cell HB.out 0).trans rfl
      have hkk : ¬ (k : Int) < (x.f3.length : Int) := by omega
      go_wp2
      go_ret
      exact marked_mk (.row vs) HK.out (Nat.zero_le _) rfl HX.out

end Go.Proofs.Ythkemcekcfccpaa.PBrandCompares

namespace Go.Proofs.Ythkemcekcfccpaa.PBrandCompares
open Go.RowKit Go.Proofs.YthkemcekcfccpaaW.PrintWords Go.Proofs.YthkemcekcfccpaaW.PrintLast Go.Proofs.YthkemcekcfccpaaW.PrintMore
open Go.Proofs.Ythkemcekcfccpaa.GBrandCompares
set_option linter.unusedVariables false
set_option linter.unusedSimpArgs false

theorem mark_fit (n : Nat) : ∀ (x : S27) (ok : Nat → Prop) (A : Option Addr) (c : Nat) (w : World), Fit n x → Kd.F k27 w ok A x.f3.length x.f3 → SPEC n x w A c := by
  induction n with
  | zero =>
    intro x ok A c w hf hF
    by_cases h1 : x.f0 = 1
    · exact mark_1 0 x A c w h1
    by_cases h2 : x.f0 = 2
    · exact mark_2 0 x A c w h2
    by_cases h4 : x.f0 = 4
    · exact mark_4 0 x A c w h4
    · exact mark_0 0 x A c w h1 h2 h4 hf
  | succ n ih =>
    intro x ok A c w hf hF
    by_cases h1 : x.f0 = 1
    · exact mark_1 _ x A c w h1
    by_cases h2 : x.f0 = 2
    · exact mark_2 _ x A c w h2
    by_cases h4 : x.f0 = 4
    · exact mark_4 _ x A c w h4
    by_cases h3 : x.f0 = 3
    · obtain ⟨hl, hy⟩ := hf h3
      by_cases h : x.f3.length = 2
      · exact mark_pair n x A c w ok h3 h hF (fun y hm A c w hF => ih y ok A c w (hy y hm) hF)
      · exact mark_row n x A c w ok h3 h hl hF (fun y hm A c w hF => ih y ok A c w (hy y hm) hF)
    · exact mark_0 _ x A c w h1 h2 h4 h3

theorem take_fit (n : Nat) : (∀ x : S27, SizeOf.sizeOf x ≤ n → ∀ p d, 0 ≤ p → p ≤ 512 → 0 ≤ d → (takeV x p d).1 = true → Fit d.toNat x) ∧
    (∀ l : List S27, SizeOf.sizeOf l ≤ n → ∀ p d, 0 ≤ p → p ≤ 512 → 0 ≤ d → (takeL l p d).1 = true → ∀ y ∈ l, Fit d.toNat y) := by
  induction n with
  | zero =>
    refine ⟨fun x hx => ?_, fun l hl => ?_⟩
    · cases x; simp at hx
    · cases l <;> simp at hl
  | succ n ih =>
    refine ⟨fun x hx p d hp hp2 hd ht => ?_, fun l hl p d hp hp2 hd ht => ?_⟩
    · by_cases h3 : x.f0 = 3
      · by_cases hz : p = 0
        · rw [takeV_z hz] at ht; simp at ht
        rw [takeV_3 hz h3] at ht
        split at ht
        · simp at ht
        · rename_i hn
          have hd1 : 1 ≤ d := by omega
          obtain ⟨m, hm⟩ : ∃ m, d.toNat = m + 1 := ⟨d.toNat - 1, by omega⟩
          rw [hm]
          intro _
          refine ⟨by omega, ?_⟩
          have hs : SizeOf.sizeOf x.f3 ≤ n := by cases x; simp at hx ⊢; omega
          have h := ih.2 x.f3 hs (p - 1) (d - 1) (by omega) (by omega) (by omega)
          rw [show (d - 1).toNat = m by omega] at h
          apply h
          generalize takeL x.f3 (p - 1) (d - 1) = t at ht
          obtain ⟨b, p', d'⟩ := t
          cases b
          · simp at ht
          · rfl
      · cases h : d.toNat with
        | zero => exact h3
        | succ m => exact fun h => absurd h h3
    · cases l with
      | nil => simp
      | cons x l =>
        have hx : SizeOf.sizeOf x ≤ n := by simp at hl; omega
        have hl : SizeOf.sizeOf l ≤ n := by simp at hl; omega
        unfold takeL at ht
        have hb := takeV_bounds x hp hd
        have h1 := ih.1 x hx p d hp hp2 hd
        generalize takeV x p d = t at ht hb h1
        obtain ⟨b, p', d'⟩ := t
        cases b
        · simp at ht
        · dsimp only at ht hb h1
          have h5 := hb.2.2.2.2 rfl
          subst h5
          have h2 := ih.2 l hl p' d' hb.1 (by omega) hd ht
          intro y hy
          rcases List.mem_cons.1 hy with rfl | hy
          · exact h1 rfl
          · exact h2 y hy

theorem may_fit {x : S27} (h : mayV x = true) : Fit 16 x := by
  refine (take_fit _).1 x (Nat.le_refl _) 512 16 (by omega) (by omega) (by omega) ?_
  simp only [mayV, measureV, decide_eq_true_eq] at h
  split at h
  · assumption
  · simp at h

/-- mark, at what May admits -/
theorem mark_calls (x : S27) (ok : Nat → Prop) (A : Option Addr) (c : Nat) (w : World) (h : mayV x = true) (hF : Kd.F k27 w ok A x.f3.length x.f3) : SPEC 16 x w A c :=
  mark_fit 16 x ok A c w (may_fit h) hF

set_option maxHeartbeats 400000 in
theorem of_no (x : S27) (A : Option Addr) (c : Nat) (w : World) (ok : Nat → Prop) (hF : Kd.F k27 w ok A x.f3.length x.f3) (hm : mayV x = false) :
    Calls Try.prog 18 #[.agg #[.int .u8 x.f0, .int .i64 x.f1, .string x.f2, .slice A x.f3.length c, .int .i64 x.f4]] w fun e w' => e = .returned (.tuple #[.nilIface, .int .i64 2]) ∧ Ex (fun _ => False) w w' := by
  have HF := Aside0.mk hF
  have HM := Aside0.mk hm
  clear hF hm
  go_enter Try.func18, Try.ntmps18
  go_wp2_with fail
  refine (may_calls x A c _ ok (Kd.F_alloc HF.out _)).mono ?_
  rintro e w1 ⟨rfl, hx1⟩
  have HX1 := Aside0.mk hx1
  clear hx1
  rw [HM.out]
  go_wp2
  go_ret2
  exact ⟨rfl, ((Ex.refl _ _).alloc _).trans HX1.out (fun _ h => h.elim)⟩

set_option maxHeartbeats 400000 in
theorem of_yes (x : S27) (A : Option Addr) (c : Nat) (w : World) (ok : Nat → Prop) (hF : Kd.F k27 w ok A x.f3.length x.f3) (hm : mayV x = true) :
    Calls Try.prog 18 #[.agg #[.int .u8 x.f0, .int .i64 x.f1, .string x.f2, .slice A x.f3.length c, .int .i64 x.f4]] w fun e w' => ∃ m : Mk, MarkOf x m ∧ m.deep ≤ 16 ∧ e = .returned (.tuple #[m.val, .int .i64 0]) ∧ Ex (fun _ => False) w w' := by
  have HF := Aside0.mk hF
  have HM := Aside0.mk hm
  clear hF hm
  go_enter Try.func18, Try.ntmps18
  go_wp2_with fail
  refine (may_calls x A c _ ok (Kd.F_alloc HF.out _)).mono ?_
  rintro e w1 ⟨rfl, hx1⟩
  have HF1 := Aside0.mk (ex_F hx1 (Kd.F_alloc HF.out _) (fun _ _ h => h))
  obtain ⟨hc, hf⟩ := hx1.cells
  have HX1 := Aside0.mk (((Ex.refl (fun _ => False) w).alloc _).trans hx1 (fun _ h => h.elim))
  clear hx1
  have hm' := HM.out
  rw [hm']
  clear hm'
  go_wp2_with fail
  refine (mark_calls x ok A c _ HM.out HF1.out).mono ?_
  rintro e w2 ⟨m, h1, h2, rfl, h4⟩
  have HH := Aside0.mk (And.intro h1 (And.intro h2 (HX1.out.trans h4 (fun _ h => h.elim))))
  clear h1 h2 h4 hc hf
  go_wp2
  go_ret2
  exact ⟨m, HH.out.1, HH.out.2.1, rfl, HH.out.2.2⟩
end Go.Proofs.Ythkemcekcfccpaa.PBrandCompares

namespace Go.Proofs.Ythkemcekcfccpaa.PBrandCompares
open Go.RowKit Go.Proofs.YthkemcekcfccpaaW.PrintWords Go.Proofs.YthkemcekcfccpaaW.PrintLast Go.Proofs.YthkemcekcfccpaaW.PrintMore
open Go.Proofs.Ythkemcekcfccpaa.GBrandCompares
set_option linter.unusedVariables false
set_option linter.unusedSimpArgs false

theorem catch_idle (p : Addr) (w : World) :
    CallsD Try.prog 49 #[.pointer (some p)] .returning w fun e u' w' => e = .returned (.tuple #[]) ∧ u' = .returning ∧ w' = w := by
  refine callsD_of_wpS Try.func49 rfl fun c₀ cs hu => ?_
  apply wpS_seq
  apply wpS_region
  simp [wpOpsS, go_sem, recoverD, hu, Try.ntmps49, Exit.thenS]
  refine wpS_of_wp ?_
  rw [show #[Value.pointer (some p)] ++ ((Array.replicate 14 undef).setIfInBounds 3 Value.nilIface).setIfInBounds 0 Value.nilIface = #[Value.pointer (some p), .nilIface, undef, undef, .nilIface, undef, undef, undef, undef, undef, undef, undef, undef, undef, undef] from rfl]
  go_wp2
  cases c₀
  simp_all [bodyPostS, results, Try.results49]

theorem assert10 (v : Value) (w : World) : (Instr.typeAssert (.iface 10 v) 20 91 true).run Try.prog w = .ok (.tuple #[.iface 10 v, .bool true]) w := by kernel_rfl
theorem assert19 (v : Value) (w : World) : (Instr.typeAssert (.iface 19 v) 20 91 true).run Try.prog w = .ok (.tuple #[.iface 19 v, .bool true]) w := by kernel_rfl

theorem catch_panicking (p : Addr) (u : TypeId) (hu : u = 10 ∨ u = 19) (pv : Value) (older : List PanicEntry) (w : World) (hc : w.cell? p = some (.bool false)) (hz : w.frozen? p = false) :
    CallsD Try.prog 49 #[.pointer (some p)] (.panicking ({ v := .iface u pv, recovered := false } :: older)) w fun e u' w' =>
      e = .returned (.tuple #[]) ∧ u' = .panicking ({ v := .iface u pv, recovered := true } :: older) ∧ w' = w.setCell p (.bool true) := by
  have ha : (Instr.typeAssert (.iface u pv) 20 91 true).run Try.prog w = .ok (.tuple #[.iface u pv, .bool true]) w := by
    rcases hu with rfl | rfl
    · exact assert10 pv w
    · exact assert19 pv w
  clear hu
  refine callsD_of_wpS Try.func49 rfl fun c₀ cs hm => ?_
  apply wpS_seq
  apply wpS_region
  simp [wpOpsS, go_sem, recoverD, hm, Try.ntmps49, Exit.thenS]
  refine wpS_of_wp ?_
  rw [show #[Value.pointer (some p)] ++ ((Array.replicate 14 undef).setIfInBounds 3 (Value.iface u pv)).setIfInBounds 0 (Value.iface u pv) = #[Value.pointer (some p), .iface u pv, undef, undef, .iface u pv, undef, undef, undef, undef, undef, undef, undef, undef, undef, undef] from rfl]
  go_wp2
  cases c₀
  simp_all [bodyPostS, results, Try.results49]

theorem met_ok (g : FuncId) (caps : Array Value) (S : Nat → Prop) (R : World → Prop) (w : World) (hS : ∀ b, S b → b < w.heap.size) (hen : ∀ w, (callFunc g caps).run Try.prog w = .ok (.enter g caps) w)
    (h : Calls Try.prog g caps (w.alloc (.cells #[.bool false] 4)) fun e w' => e = .returned (.tuple #[]) ∧ Ex S (w.alloc (.cells #[.bool false] 4)) w' ∧ R w') :
    Calls Try.prog 30 #[.func (.func g) #[] caps] w fun e w' => e = .returned (.bool false) ∧ ∃ w1, R w1 ∧ Ex S (w.alloc (.cells #[.bool false] 4)) w1 ∧ w' = w1.setCell ⟨w.heap.size, 0, none⟩ (.bool false) := by
  have hmf : ∀ (fn : Fn) (first cap : Array Value) (w : World), (Instr.makeFunc fn first cap).run Try.prog w = .ok (.func fn first cap) w := fun _ _ _ _ => rfl
  have H := Aside0.mk h
  have HS := Aside0.mk hS
  clear h hS
  go_enter_defers Try.func30, Try.ntmps30
  go_wp2_with fail
  refine H.out.mono ?_
  rintro e w1 ⟨rfl, hx, hr⟩
  have HX := Aside0.mk hx
  have HR := Aside0.mk hr
  have HB := Aside0.mk (hx.blk (blk_new1 w _) (fun h => absurd (HS.out _ h) (Nat.lt_irrefl _)))
  clear hx hr
  have hc := (blk_cell HB.out 0).trans rfl
  have hf := blk_frozen HB.out 0
  have hl := lt_of_blk HB.out
  go_wp2
  refine leaves_cons (f := 49) (args := #[.pointer (some ⟨w.heap.size, 0, none⟩)]) (by simp) (by simp [go_sem]) ?_
  refine (catch_idle ⟨w.heap.size, 0, none⟩ _).mono ?_
  rintro e u' w'' ⟨rfl, rfl, rfl⟩
  simp [Leaves, settle, results, Try.results30, go_sem]
  rw [(blk_cell (blk_put HB.out 0 (.bool false) rfl) 0).trans rfl]
  exact ⟨_, rfl, rfl, w1, HR.out, HX.out, rfl⟩

theorem met_panic (g : FuncId) (caps : Array Value) (S : Nat → Prop) (R : World → Prop) (w : World) (hS : ∀ b, S b → b < w.heap.size) (hen : ∀ w, (callFunc g caps).run Try.prog w = .ok (.enter g caps) w)
    (h : Calls Try.prog g caps (w.alloc (.cells #[.bool false] 4)) fun e w' => (∃ u pv, (u = 10 ∨ u = 19) ∧ e = .panicked [{ v := .iface u pv, recovered := false }]) ∧ Ex S (w.alloc (.cells #[.bool false] 4)) w' ∧ R w') :
    Calls Try.prog 30 #[.func (.func g) #[] caps] w fun e w' => e = .returned (.bool true) ∧ ∃ w1, R w1 ∧ Ex S (w.alloc (.cells #[.bool false] 4)) w1 ∧ w' = w1.setCell ⟨w.heap.size, 0, none⟩ (.bool true) := by
  have hmf : ∀ (fn : Fn) (first cap : Array Value) (w : World), (Instr.makeFunc fn first cap).run Try.prog w = .ok (.func fn first cap) w := fun _ _ _ _ => rfl
  have H := Aside0.mk h
  have HS := Aside0.mk hS
  clear h hS
  go_enter_defers Try.func30, Try.ntmps30
  go_wp2_with fail
  refine H.out.mono ?_
  rintro e w1 ⟨⟨u, pv, hu, rfl⟩, hx, hr⟩
  have HU := Aside0.mk hu
  clear hu
  have HX := Aside0.mk hx
  have HR := Aside0.mk hr
  have HB := Aside0.mk (hx.blk (blk_new1 w _) (fun h => absurd (HS.out _ h) (Nat.lt_irrefl _)))
  clear hx hr
  have hc := (blk_cell HB.out 0).trans rfl
  have hf := blk_frozen HB.out 0
  have hl := lt_of_blk HB.out
  go_wp2
  refine leaves_cons (f := 49) (args := #[.pointer (some ⟨w.heap.size, 0, none⟩)]) (by simp) (by simp [go_sem]) ?_
  refine (catch_panicking ⟨w.heap.size, 0, none⟩ u HU.out pv [] _ hc hf).mono ?_
  rintro e u' w'' ⟨rfl, rfl, rfl⟩
  simp [Leaves, settle, results, Try.results30, go_sem]
  rw [(blk_cell (blk_put HB.out 0 (.bool true) rfl) 0).trans rfl]
  exact ⟨_, rfl, rfl, w1, HR.out, HX.out, rfl⟩

/-- how deep the model's == goes down is enough -/
theorem deep_enough {n : Nat} (h : n ≤ 16) : 2 * n + 2 ≤ Op.maxDepth := by
  show _ ≤ 10000
  omega

theorem eq_of {a b : Mk} {t1 t2 : TypeId} {u1 u2 : Value} {ev : Operand → Value} {o : Oper} {x y : Operand} (ha : a.deep ≤ 16) (h1 : a.val = .iface t1 u1) (h2 : b.val = .iface t2 u2) (ho : o.op = .binOp .eql 45 x y 45) (hx : ev x = .iface t1 u1) (hy : ev y = .iface t2 u2) (w : World) :
    (execOp ev o).run Try.prog w = (eqRes (a.cmp b) w).andThen fun b w => .ok (.value (.bool b)) w := by
  rw [run_eql ho hx hy, ← h1, ← h2, eq_marks a b _ _ (deep_enough ha)]

/-- Compare$1: the two marks' equality: 'true' -/
theorem same_marks (a b : Mk) (ha : a.deep ≤ 16) (ga gb gc : Nat) (w : World) (h1 : w.heap[ga]? = some (.cells #[a.val] 45 (0, 0))) (h2 : w.heap[gb]? = some (.cells #[b.val] 45 (0, 0))) (h3 : w.heap[gc]? = some (.cells #[.int .u8 0] 30 (0, 0))) (hc : a.cmp b = 1) :
    Calls Try.prog 31 #[.pointer (some ⟨ga, 0, none⟩), .pointer (some ⟨gb, 0, none⟩), .pointer (some ⟨gc, 0, none⟩)] w fun e w' => e = .returned (.tuple #[]) ∧ w' = w.setCell ⟨gc, 0, none⟩ (.int .u8 1) := by
  have hl1 := lt_of_blk h1
  have hl2 := lt_of_blk h2
  have hl3 := lt_of_blk h3
  have c1 := (blk_cell h1 0).trans rfl
  have c2 := (blk_cell h2 0).trans rfl
  have c3 := (blk_cell h3 0).trans rfl
  have f3 := blk_frozen h3 0
  clear h1 h2 h3
  obtain ⟨t1, u1, hu1⟩ := a.val_iface
  obtain ⟨t2, u2, hu2⟩ := b.val_iface
  rw [hu1] at c1
  rw [hu2] at c2
  have HU := Aside0.mk (And.intro hu1 hu2)
  have HC := Aside0.mk hc
  have HA := Aside0.mk ha
  clear hc ha hu1 hu2
  go_enter Try.func31, Try.ntmps31
  go_wp2_with (refine valueL (some 5) rfl rfl (.bool true) ((eq_of HA.out HU.out.1 HU.out.2 rfl rfl rfl _).trans (by rw [HC.out]; rfl)) ?_)
  first | refine bodyPost_ret (results_none rfl _ _ _) rfl ?_ | refine bodyPost_end (results_none rfl _ _ _) rfl ?_
  exact ⟨rfl, rfl⟩

/-- .. 'false' -/
theorem unlike_marks (a b : Mk) (ha : a.deep ≤ 16) (ga gb gc : Nat) (w : World) (h1 : w.heap[ga]? = some (.cells #[a.val] 45 (0, 0))) (h2 : w.heap[gb]? = some (.cells #[b.val] 45 (0, 0))) (hc : a.cmp b = 0) :
    Calls Try.prog 31 #[.pointer (some ⟨ga, 0, none⟩), .pointer (some ⟨gb, 0, none⟩), .pointer (some ⟨gc, 0, none⟩)] w fun e w' => e = .returned (.tuple #[]) ∧ w' = w := by
  have hl1 := lt_of_blk h1
  have hl2 := lt_of_blk h2
  have c1 := (blk_cell h1 0).trans rfl
  have c2 := (blk_cell h2 0).trans rfl
  clear h1 h2
  obtain ⟨t1, u1, hu1⟩ := a.val_iface
  obtain ⟨t2, u2, hu2⟩ := b.val_iface
  rw [hu1] at c1
  rw [hu2] at c2
  have HU := Aside0.mk (And.intro hu1 hu2)
  have HC := Aside0.mk hc
  have HA := Aside0.mk ha
  clear hc ha hu1 hu2
  go_enter Try.func31, Try.ntmps31
  go_wp2_with (refine valueL (some 5) rfl rfl (.bool false) ((eq_of HA.out HU.out.1 HU.out.2 rfl rfl rfl _).trans (by rw [HC.out]; rfl)) ?_)
  first | refine bodyPost_ret (results_none rfl _ _ _) rfl ?_ | refine bodyPost_end (results_none rfl _ _ _) rfl ?_
  exact ⟨rfl, rfl⟩

/-- .. the panic -/
theorem panic_marks (a b : Mk) (ha : a.deep ≤ 16) (ga gb gc : Nat) (w : World) (h1 : w.heap[ga]? = some (.cells #[a.val] 45 (0, 0))) (h2 : w.heap[gb]? = some (.cells #[b.val] 45 (0, 0))) (hc : a.cmp b = 2) :
    Calls Try.prog 31 #[.pointer (some ⟨ga, 0, none⟩), .pointer (some ⟨gb, 0, none⟩), .pointer (some ⟨gc, 0, none⟩)] w fun e w' => e = .panicked [{ v := .iface 10 (strVal "comparing uncomparable type brand.row"), recovered := false }] ∧ w' = w := by
  have hl1 := lt_of_blk h1
  have hl2 := lt_of_blk h2
  have c1 := (blk_cell h1 0).trans rfl
  have c2 := (blk_cell h2 0).trans rfl
  clear h1 h2
  obtain ⟨t1, u1, hu1⟩ := a.val_iface
  obtain ⟨t2, u2, hu2⟩ := b.val_iface
  rw [hu1] at c1
  rw [hu2] at c2
  have HU := Aside0.mk (And.intro hu1 hu2)
  have HC := Aside0.mk hc
  have HA := Aside0.mk ha
  clear hc ha hu1 hu2
  go_enter Try.func31, Try.ntmps31
  go_wp2_with (refine panicL (some 5) rfl rfl (.iface 10 (strVal "comparing uncomparable type brand.row")) ((eq_of HA.out HU.out.1 HU.out.2 rfl rfl rfl _).trans (by rw [HC.out]; rfl)) ?_)
  exact ⟨rfl, rfl, rfl⟩

end Go.Proofs.Ythkemcekcfccpaa.PBrandCompares

namespace Go.Proofs.Ythkemcekcfccpaa.PBrandCompares
open Go.RowKit Go.Proofs.YthkemcekcfccpaaW.PrintWords Go.Proofs.YthkemcekcfccpaaW.PrintLast Go.Proofs.YthkemcekcfccpaaW.PrintMore
open Go.Proofs.Ythkemcekcfccpaa.GBrandCompares
set_option linter.unusedVariables false
set_option linter.unusedSimpArgs false

theorem info3 : (Try.prog.info? 3).map (fun i => (i.zero, i.size, i.bytes)) = some (some (.int .i64 0), 1, 8) := by kernel_rfl

/-- a block written over -/
def setB (w : World) (r : Nat) (o : Obj) : World := { w with heap := w.heap.setIfInBounds r o }
theorem setB_blk {w : World} {r : Nat} {o o' : Obj} (h : w.heap[r]? = some o) : (setB w r o').heap[r]? = some o' := (Go.MapKept.heap_set h).1
theorem setB_ne (w : World) (r : Nat) (o : Obj) {b : Nat} (h : b ≠ r) : (setB w r o).heap[b]? = w.heap[b]? := by simp [setB, Ne.symm h]
theorem ex_setB {S : Nat → Prop} {w w1 : World} (h : Ex S w w1) {r : Nat} (hr : S r ∨ w.heap.size ≤ r) (o : Obj) : Ex S w (setB w1 r o) :=
  h.trans (S2 := fun b => b = r) ⟨rfl, rfl, rfl, by simp [setB], fun b _ hn => setB_ne w1 r o hn⟩ (fun b hb => hb ▸ hr)

theorem make_map (t : TypeId) (w : World) : (Instr.makeMap t none).run Try.prog w = .ok (.map (some w.heap.size)) (w.alloc (.map #[] 0)) := by
  simp [Instr.makeMap]

theorem run_entry0 {w : World} {r clock : Nat} {a : Mk} (t e : TypeId) (ht : Try.prog.underlying t = some (.map 45 e)) {i : TypeInfo} (hi : Try.prog.info? e = some i) {z : Value} (hz : i.zero = some z) (hb : w.heap[r]? = some (.map #[] clock)) (ha : Key a) :
    (Instr.mapEntry t (.map (some r)) a.val).run Try.prog w = .ok (.tuple #[z, goInt clock]) (setB w r (.map #[{ key := a.val, val := z, born := clock }] (clock + 1))) := by
  unfold Instr.mapEntry
  rw [Sem.run_bind, run_underlying ht, Result.andThen_ok]
  simp only [Sem.run_bind, Go.MapKept.run_getObj_map hb, Result.andThen_ok, Sem.run_pure, check_ok a ha, find_key a ha [] [] _ (by simp) rfl]
  simp [posMk, zeroValue, typeInfo, hi, hz, Result.andThen, Go.MapKept.run_setObj_map _ hb, setB]

theorem run_estore0 {w : World} {r clock : Nat} {k z : Value} (t : TypeId) (x : Value) (hb : w.heap[r]? = some (.map #[{ key := k, val := z, born := 0 }] clock)) :
    (Instr.entryStore t (.map (some r)) (.int .i64 0) x).run Try.prog w = .ok () (setB w r (.map #[{ key := k, val := x, born := 0 }] clock)) := by
  unfold Instr.entryStore
  have h0 : (asInt (.int .i64 0)).run Try.prog w = .ok 0 w := rfl
  simp only [Sem.run_bind, Go.MapKept.run_getObj_map hb, Result.andThen_ok, h0, Sem.run_pure]
  have hf : Array.findIdx? (fun e : MapEntry => ((e.born : Int) == 0)) #[{ key := k, val := z, born := 0 }] = some 0 := by simp [List.findIdx?_cons]
  rw [hf]
  exact Go.MapKept.run_setObj_map _ hb

/-- at an empty map: nothing is found; where an entry of zero has been made: zero -/
theorem run_look0 {w : World} {r clock : Nat} {a : Mk} (hb : w.heap[r]? = some (.map #[] clock)) (ha : Key a) :
    (Instr.lookup 93 (.map (some r)) a.val false).run Try.prog w = .ok (.int .i64 0) w := by
  obtain ⟨i0, hi0, hz0, _, _⟩ := info_parts info3
  exact run_lookup 93 3 Try.underlying93 hi0 hz0 hb ha (ms := []) (by simp) rfl false
theorem run_look1 {w : World} {r clock : Nat} {a : Mk} (hb : w.heap[r]? = some (.map #[{ key := a.val, val := .int .i64 0, born := 0 }] clock)) (ha : Key a) :
    (Instr.lookup 93 (.map (some r)) a.val false).run Try.prog w = .ok (.int .i64 0) w := by
  obtain ⟨i0, hi0, hz0, _, _⟩ := info_parts info3
  rw [run_lookup 93 3 Try.underlying93 hi0 hz0 hb ha (ms := [a]) (by simpa using ha) rfl false]
  have hp : posMk a [a] = some 0 := by
    unfold posMk
    rw [List.findIdx?_cons]
    rcases cmp_keys a a ha.1 ha.1 with ⟨h, _⟩ | ⟨_, h⟩
    · rw [h]; rfl
    · exact absurd rfl h
  rw [hp]
  rfl
theorem run_lookP {w : World} {r clock : Nat} {a : Mk} (hb : w.heap[r]? = some (.map #[] clock)) (ha : a.keys = false) (hd : a.deep ≤ 16) :
    (Instr.lookup 93 (.map (some r)) a.val false).run Try.prog w = .halt (.panic (.iface 19 (.agg #[typeHandle Try.prog 103]))) w := by
  unfold Instr.lookup
  rw [Sem.run_bind, run_underlying Try.underlying93, Result.andThen_ok]
  simp only [Sem.run_bind, Go.MapKept.run_getObj_map hb, Result.andThen_ok, Sem.run_pure, check_marks a _ 10000 w (by omega : 2 * a.deep + 2 ≤ 10000), checkRes, ha]
  rfl
theorem run_entryP {w : World} {r clock : Nat} {a : Mk} (hb : w.heap[r]? = some (.map #[] clock)) (ha : a.keys = false) (hd : a.deep ≤ 16) :
    (Instr.mapEntry 93 (.map (some r)) a.val).run Try.prog w = .halt (.panic (.iface 10 (strVal "hash of unhashable type brand.row"))) w := by
  unfold Instr.mapEntry
  rw [Sem.run_bind, run_underlying Try.underlying93, Result.andThen_ok]
  simp only [Sem.run_bind, Go.MapKept.run_getObj_map hb, Result.andThen_ok, Sem.run_pure, check_marks a _ 10000 w (by omega : 2 * a.deep + 2 ≤ 10000), checkRes, ha]
  rfl

theorem keyf_ok (a : Mk) (ha : Key a) (ga : Nat) (w : World) (h1 : w.heap[ga]? = some (.cells #[a.val] 45 (0, 0))) :
    Calls Try.prog 51 #[.pointer (some ⟨ga, 0, none⟩)] w fun e w' => e = .returned (.tuple #[]) ∧ Ex (fun _ => False) w w' := by
  have hl1 := lt_of_blk h1
  have c1 := (blk_cell h1 0).trans rfl
  have hM : (w.alloc (.map #[] 0)).drew.heap[w.heap.size]? = some (.map #[] 0) := blk_drew (blk_new1 w _)
  obtain ⟨i0, hi0, hz0, _, _⟩ := info_parts info3
  have hlk := run_look0 hM ha
  have hen := run_entry0 93 3 Try.underlying93 hi0 hz0 hM ha
  have hlk2 := run_look1 (setB_blk (o' := .map #[{ key := a.val, val := .int .i64 0, born := 0 }] 1) hM) ha
  have hst := run_estore0 93 (.int .i64 1) (setB_blk (o' := .map #[{ key := a.val, val := .int .i64 0, born := 0 }] 1) hM)
  have hcl : ∀ i, (setB (w.alloc (.map #[] 0)).drew w.heap.size (.map #[{ key := a.val, val := .int .i64 0, born := 0 }] 1)).cell? ⟨ga, i, none⟩ = w.cell? ⟨ga, i, none⟩ := fun i =>
    (ex_setB (((Ex.refl (fun _ => False) w).alloc _).drew) (.inr (Nat.le_refl _)) _).cell hl1 (fun h => h) i
  have hmk := make_map
  obtain ⟨t1, u1, hu1⟩ := a.val_iface
  rw [hu1] at c1 hlk hlk2 hen hst hcl
  have HX := Aside0.mk (ex_setB (ex_setB (((Ex.refl (fun _ => False) w).alloc (.map #[] 0)).drew) (.inr (Nat.le_refl _)) (.map #[{ key := a.val, val := .int .i64 0, born := 0 }] 1)) (.inr (Nat.le_refl _)) (.map #[{ key := a.val, val := .int .i64 1, born := 0 }] 1))
  rw [hu1] at HX
  clear ha hu1 hi0 hz0 h1 hM
  generalize hW2 : setB (w.alloc (.map #[] 0)).drew w.heap.size (.map #[{ key := .iface t1 u1, val := .int .i64 0, born := 0 }] 1) = W2 at hlk2 hen hst hcl HX
  generalize hW3 : setB W2 w.heap.size (.map #[{ key := .iface t1 u1, val := .int .i64 1, born := 0 }] 1) = W3 at hst HX
  clear hW2 hW3
  go_enter Try.func51, Try.ntmps51
  go_wp2
  go_region
  all_goals
    refine bodyPost_end (results_none rfl _ _ _) rfl ?_
    exact ⟨rfl, HX.out⟩

/-- a mark that can be no key: a panic of the machine's own, of one kind or of the other -/
theorem keyf_no (a : Mk) (ha : a.keys = false) (hd : a.deep ≤ 16) (ga : Nat) (w : World) (h1 : w.heap[ga]? = some (.cells #[a.val] 45 (0, 0))) :
    Calls Try.prog 51 #[.pointer (some ⟨ga, 0, none⟩)] w fun e w' => (e = .panicked [{ v := .iface 19 (.agg #[typeHandle Try.prog 103]), recovered := false }] ∨ e = .panicked [{ v := .iface 10 (strVal "hash of unhashable type brand.row"), recovered := false }]) ∧ Ex (fun _ => False) w w' := by
  have hl1 := lt_of_blk h1
  have c1 := (blk_cell h1 0).trans rfl
  have hM : (w.alloc (.map #[] 0)).drew.heap[w.heap.size]? = some (.map #[] 0) := blk_drew (blk_new1 w _)
  have hlk := run_lookP hM ha hd
  have hen := run_entryP hM ha hd
  have hmk := make_map
  obtain ⟨t1, u1, hu1⟩ := a.val_iface
  rw [hu1] at c1 hlk hen
  have HX := Aside0.mk (((Ex.refl (fun _ => False) w).alloc (.map #[] 0)).drew)
  clear ha hu1 h1 hM
  generalize Value.agg #[typeHandle Try.prog 103] = hv at hlk ⊢
  go_enter Try.func51, Try.ntmps51
  go_wp2
  refine start_ (n := 7) (S := Any) (ds := [0, 1, 2, 3, 4, 5, 6]) #[false, false, false, false, false, false, false] (by kernel_rfl) (by rfl) (by rfl) trivial (fun _ => ?_)
  refine pure_ (i := 0) (N := some 3) (v := .map (some w.heap.size)) (a' := _) #[true, false, false, false, false, false, false] rfl rfl (by kernel_rfl) (fun _ _ _ h => h) (Or.inl ⟨by rfl, ?_⟩) rfl ?_
  · intro w'
    rfl
  refine stepV (i := 1) (N := some 4) #[true, true, false, false, false, false, false] rfl (by kernel_rfl) (by decide) rfl (by rfl) (.iface t1 u1) (w1 := (w.alloc (.map #[] 0)).drew) (by go_simp) rfl ?_
  refine stepPP (i := 2) (j := 4) rfl rfl (by kernel_rfl) (by decide) (by decide) (by rfl) (by rfl) _ _ (exec_halt (s := Instr.lookup 93 (.map (some w.heap.size)) (.iface t1 u1) false) rfl hlk) (exec_halt (s := Instr.mapEntry 93 (.map (some w.heap.size)) (.iface t1 u1)) rfl hen) ?_ ?_
  · exact ⟨rfl, .inl rfl, HX.out⟩
  · exact ⟨rfl, .inr rfl, HX.out⟩

set_option maxHeartbeats 400000 in
theorem key_yes (a : Mk) (ha : Key a) (w : World) :
    Calls Try.prog 36 #[a.val] w fun e w' => e = .returned (.bool true) ∧ Ex (fun _ => False) w w' := by
  have hmf : ∀ (fn : Fn) (first cap : Array Value) (w : World), (Instr.makeFunc fn first cap).run Try.prog w = .ok (.func fn first cap) w := fun _ _ _ _ => rfl
  have HA := Aside0.mk ha
  obtain ⟨t1, u1, hu1⟩ := a.val_iface
  rw [hu1]
  have HU := Aside0.mk hu1
  clear ha hu1
  go_enter Try.func36, Try.ntmps36
  go_wp2_with fail
  refine Calls.mono (met_ok 51 _ (fun _ => False) (fun _ => True) _ (fun _ h => h.elim) (fun w => enters_ Try.func51 (by kernel_rfl) rfl _ w) ?_) ?_
  · refine (keyf_ok a HA.out w.heap.size _ (by rw [HU.out]; exact blk_alloc (blk_new1 _ _) _)).mono ?_
    rintro e w' ⟨rfl, hx⟩
    exact ⟨rfl, hx, trivial⟩
  rintro e w3 ⟨rfl, w4, _, hx, rfl⟩
  have HX := Aside0.mk ((((((Ex.refl (fun _ => False) w).alloc _).alloc _).trans hx (fun _ h => h.elim))).set (p := ⟨w.heap.size + 1, 0, none⟩) (.inr (Nat.le_succ _)) (.bool false))
  clear hx
  go_wp2
  go_ret
  exact ⟨rfl, HX.out⟩

set_option maxHeartbeats 400000 in
theorem key_no (a : Mk) (ha : a.keys = false) (hd : a.deep ≤ 16) (w : World) :
    Calls Try.prog 36 #[a.val] w fun e w' => e = .returned (.bool false) ∧ Ex (fun _ => False) w w' := by
  have hmf : ∀ (fn : Fn) (first cap : Array Value) (w : World), (Instr.makeFunc fn first cap).run Try.prog w = .ok (.func fn first cap) w := fun _ _ _ _ => rfl
  have HA := Aside0.mk (And.intro ha hd)
  obtain ⟨t1, u1, hu1⟩ := a.val_iface
  rw [hu1]
  have HU := Aside0.mk hu1
  clear ha hu1 hd
  go_enter Try.func36, Try.ntmps36
  go_wp2_with fail
  refine Calls.mono (met_panic 51 _ (fun _ => False) (fun _ => True) _ (fun _ h => h.elim) (fun w => enters_ Try.func51 (by kernel_rfl) rfl _ w) ?_) ?_
  · refine (keyf_no a HA.out.1 HA.out.2 w.heap.size _ (by rw [HU.out]; exact blk_alloc (blk_new1 _ _) _)).mono ?_
    rintro e w' ⟨h, hx⟩
    refine ⟨?_, hx, trivial⟩
    rcases h with rfl | rfl
    · exact ⟨19, _, .inr rfl, rfl⟩
    · exact ⟨10, _, .inl rfl, rfl⟩
  rintro e w3 ⟨rfl, w4, _, hx, rfl⟩
  have HX := Aside0.mk ((((((Ex.refl (fun _ => False) w).alloc _).alloc _).trans hx (fun _ h => h.elim))).set (p := ⟨w.heap.size + 1, 0, none⟩) (.inr (Nat.le_succ _)) (.bool true))
  clear hx
  go_wp2
  go_ret
  exact ⟨rfl, HX.out⟩

/-- key -/
theorem key_calls (a : Mk) (hd : a.deep ≤ 16) (w : World) : Calls Try.prog 36 #[a.val] w fun e w' => e = .returned (.bool a.keys) ∧ Ex (fun _ => False) w w' := by
  cases h : a.keys with
  | true => exact key_yes a ⟨h, hd⟩ w
  | false => exact key_no a h hd w

end Go.Proofs.Ythkemcekcfccpaa.PBrandCompares

namespace Go.Proofs.Ythkemcekcfccpaa.PBrandCompares
open Go.RowKit Go.Proofs.YthkemcekcfccpaaW.PrintWords Go.Proofs.YthkemcekcfccpaaW.PrintLast Go.Proofs.YthkemcekcfccpaaW.PrintMore
open Go.Proofs.Ythkemcekcfccpaa.GBrandCompares
set_option linter.unusedVariables false
set_option linter.unusedSimpArgs false

/-- a map against none -/
theorem map_some (mb : Nat) (w : World) : (binOp .eql 63 (.map (some mb)) (.map none)).run Try.prog w = .ok (.bool false) w := by
  have h : ∀ d : Nat, (Op.equalIn (d + 1) 63 (.map (some mb)) (.map none)).run Try.prog w = .ok false w := fun d => by simp [Op.equalIn, run_underlying Try.underlying63]
  simp only [binOp, Op.equal, Sem.run_bind]
  rw [show Op.maxDepth = 9999 + 1 from rfl, h]
  rfl
theorem map_none (w : World) : (binOp .eql 63 (.map none) (.map none)).run Try.prog w = .ok (.bool true) w := by
  have h : ∀ d : Nat, (Op.equalIn (d + 1) 63 (.map none) (.map none)).run Try.prog w = .ok true w := fun d => by simp [Op.equalIn, run_underlying Try.underlying63]
  simp only [binOp, Op.equal, Sem.run_bind]
  rw [show Op.maxDepth = 9999 + 1 from rfl, h]
  rfl

theorem none_nil (w : World) : Calls Try.prog 37 #[.pointer none] w fun e w' => e = .returned (.bool true) ∧ w' = w := by
  go_enter Try.func37, Try.ntmps37
  go_wp2
  go_ret
  exact ⟨rfl, rfl⟩

theorem none_no (g mb : Nat) (b c : Value) (w : World) (h : w.heap[g]? = some (.cells #[.map (some mb), b, c] 66 (0, 0))) : Calls Try.prog 37 #[.pointer (some ⟨g, 0, none⟩)] w fun e w' => e = .returned (.bool false) ∧ w' = w := by
  have hl := lt_of_blk h
  have c0 := (blk_cell h 0).trans rfl
  clear h
  have hq := map_some mb
  go_enter Try.func37, Try.ntmps37
  go_wp2
  go_ret
  exact ⟨rfl, rfl⟩

theorem none_unmade (g : Nat) (b c : Value) (w : World) (h : w.heap[g]? = some (.cells #[.map none, b, c] 66 (0, 0))) : Calls Try.prog 37 #[.pointer (some ⟨g, 0, none⟩)] w fun e w' => e = .returned (.bool true) ∧ w' = w := by
  have hl := lt_of_blk h
  have c0 := (blk_cell h 0).trans rfl
  clear h
  have hq := map_none
  go_enter Try.func37, Try.ntmps37
  go_wp2
  go_ret
  exact ⟨rfl, rfl⟩

theorem new_calls (w : World) : Calls Try.prog 14 #[] w fun e w' => e = .returned (.pointer (some ⟨w.heap.size + 2, 0, none⟩)) ∧
    w' = ((w.alloc (.map #[] 0)).alloc (.map #[] 0)).alloc (.cells #[.map (some w.heap.size), .map (some (w.heap.size + 1)), .int .i64 0] 66) := by
  have hmk := make_map
  go_enter Try.func14, Try.ntmps14
  go_wp2
  go_ret
  exact ⟨rfl, rfl⟩

set_option maxHeartbeats 400000 in
theorem find_arg (x : S27) (A : Option Addr) (c : Nat) (g mb : Nat) (b d : Value) (w : World) (ok : Nat → Prop) (h : w.heap[g]? = some (.cells #[.map (some mb), b, d] 66 (0, 0))) (hF : Kd.F k27 w ok A x.f3.length x.f3) (hm : mayV x = false) :
    Calls Try.prog 39 #[.pointer (some ⟨g, 0, none⟩), .agg #[.int .u8 x.f0, .int .i64 x.f1, .string x.f2, .slice A x.f3.length c, .int .i64 x.f4]] w fun e w' => e = .returned (.tuple #[.nilIface, .int .i64 2]) ∧ Ex (fun _ => False) w w' := by
  have HG := Aside0.mk h
  have HF := Aside0.mk hF
  have HM := Aside0.mk hm
  clear h hF hm
  go_enter Try.func39, Try.ntmps39
  go_wp2_with fail
  refine (none_no g mb b d _ (blk_alloc HG.out _)).mono ?_
  rintro e w1 ⟨rfl, rfl⟩
  go_wp2_with fail
  refine (of_no x A c _ ok (Kd.F_alloc HF.out _) HM.out).mono ?_
  rintro e w1 ⟨rfl, hx1⟩
  have HX1 := Aside0.mk (((Ex.refl (fun _ => False) w).alloc _).trans hx1 (fun _ h => h.elim))
  clear hx1
  go_wp2
  go_ret2
  exact ⟨rfl, HX1.out⟩

set_option maxHeartbeats 400000 in
theorem find_key' (x : S27) (A : Option Addr) (c : Nat) (g mb : Nat) (b d : Value) (w : World) (ok : Nat → Prop) (h : w.heap[g]? = some (.cells #[.map (some mb), b, d] 66 (0, 0))) (hF : Kd.F k27 w ok A x.f3.length x.f3) (hm : mayV x = true) :
    Calls Try.prog 39 #[.pointer (some ⟨g, 0, none⟩), .agg #[.int .u8 x.f0, .int .i64 x.f1, .string x.f2, .slice A x.f3.length c, .int .i64 x.f4]] w fun e w' => ∃ m : Mk, MarkOf x m ∧ m.deep ≤ 16 ∧ Ex (fun _ => False) w w' ∧
      e = .returned (.tuple (if m.keys then #[m.val, .int .i64 0] else #[.nilIface, .int .i64 40])) := by
  have HG := Aside0.mk h
  have HF := Aside0.mk hF
  have HM := Aside0.mk hm
  clear h hF hm
  go_enter Try.func39, Try.ntmps39
  go_wp2_with fail
  refine (none_no g mb b d _ (blk_alloc HG.out _)).mono ?_
  rintro e w1 ⟨rfl, rfl⟩
  go_wp2_with fail
  refine (of_yes x A c _ ok (Kd.F_alloc HF.out _) HM.out).mono ?_
  rintro e w1 ⟨m, h1, h2, rfl, hx1⟩
  have HX1 := Aside0.mk (((Ex.refl (fun _ => False) w).alloc _).trans hx1 (fun _ h => h.elim))
  have HH := Aside0.mk (And.intro h1 h2)
  obtain ⟨t1, u1, hu1⟩ := m.val_iface
  have HK := Aside0.mk (key_calls m h2)
  rw [hu1]
  rw [hu1] at HK
  have HU := Aside0.mk hu1
  clear hx1 h1 h2 hu1
  go_wp2_with fail
  refine (HK.out _).mono ?_
  rintro e w2 ⟨rfl, hx2⟩
  have HX2 := Aside0.mk (HX1.out.trans hx2 (fun _ h => h.elim))
  clear hx2
  cases hk : m.keys with
  | true =>
    have HKK := Aside0.mk hk
    clear hk
    go_wp2
    go_ret2
    exact ⟨m, HH.out.1, HH.out.2, HX2.out, by rw [HKK.out, HU.out]; rfl⟩
  | false =>
    have HKK := Aside0.mk hk
    clear hk
    go_wp2
    go_ret2
    exact ⟨m, HH.out.1, HH.out.2, HX2.out, by rw [HKK.out]; rfl⟩

end Go.Proofs.Ythkemcekcfccpaa.PBrandCompares
