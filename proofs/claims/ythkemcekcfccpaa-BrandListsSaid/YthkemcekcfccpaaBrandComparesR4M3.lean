/-
  Get of a table.
  BrandLists in plain Lean: 'alike'; what a table says behind some puts; rows of values that share.
  Put's answers, one by one.
  BrandLists: elements that are read, wherever the world has grown; the first loop's head, round by round.
  A region that draws its order, by what each operation yields: the operations ahead of the m-th in any order (each told once), the others behind them in a row.
  A put and a new block, in either order: the table lies apart from the block.
-/
import Derived.Test.YthkemcekcfccpaaBrandComparesR4M2
import Derived.OrdersHeld
import Derived.Deep.RegionHeld3
namespace Go.Proofs.Ythkemcekcfccpaa.PBrandCompares
open Go.RowKit Go.Proofs.YthkemcekcfccpaaW.PrintWords Go.Proofs.YthkemcekcfccpaaW.PrintLast Go.Proofs.YthkemcekcfccpaaW.PrintMore
open Go.Proofs.Ythkemcekcfccpaa.GBrandCompares
set_option linter.unusedVariables false
set_option linter.unusedSimpArgs false

abbrev GET (x : S27) (A : Option Addr) (c g : Nat) (w : World) (R : Ending → World → Prop) : Prop :=
  Calls Try.prog 19 #[.pointer (some ⟨g, 0, none⟩), .agg #[.int .u8 x.f0, .int .i64 x.f1, .string x.f2, .slice A x.f3.length c, .int .i64 x.f4]] w R

theorem may_z : mayV z27 = true := by simp [mayV, measureV, takeV, z27, empty_b]
where empty_b : (⟨#[]⟩ : ByteArray) = ByteArray.empty := rfl

set_option maxHeartbeats 400000 in
theorem get_err (x : S27) (A : Option Addr) (c g : Nat) (w : World) (E : Int) (hE : (E != 0) = true) (R : World → Prop)
    (hfind : Calls Try.prog 39 #[.pointer (some ⟨g, 0, none⟩), .agg #[.int .u8 x.f0, .int .i64 x.f1, .string x.f2, .slice A x.f3.length c, .int .i64 x.f4]] ((w.alloc (.cells #[.int .u8 x.f0, .int .i64 x.f1, .string x.f2, .slice A x.f3.length c, .int .i64 x.f4] 27)).alloc (.cells #[.int .u8 0, .int .i64 0, .string ⟨#[]⟩, .slice none 0 0, .int .i64 0] 27)) fun e w' => e = .returned (.tuple #[.nilIface, .int .i64 E]) ∧ Ex (fun _ => False) ((w.alloc (.cells #[.int .u8 x.f0, .int .i64 x.f1, .string x.f2, .slice A x.f3.length c, .int .i64 x.f4] 27)).alloc (.cells #[.int .u8 0, .int .i64 0, .string ⟨#[]⟩, .slice none 0 0, .int .i64 0] 27)) w') :
    GET x A c g w fun e w' => e = .returned (.tuple #[zval, .bool false, .int .i64 E]) ∧ Ex (fun _ => False) w w' := by
  have HF := Aside0.mk hfind
  clear hfind
  unfold GET
  go_enter Try.func19, Try.ntmps19
  go_wp2_with fail
  refine HF.out.mono ?_
  rintro e w1 ⟨rfl, hx1⟩
  have HB1 := Aside0.mk (show w1.heap[w.heap.size + 1]? = some (.cells #[.int .u8 0, .int .i64 0, .string ⟨#[]⟩, .slice none 0 0, .int .i64 0] 27 (0, 0)) from hx1.blk (blk_new2 w _ _) (fun h => h))
  have HX1 := Aside0.mk ((((Ex.refl (fun _ => False) w).alloc _).alloc _).trans hx1 (fun _ h => h.elim))
  clear hx1
  have bc0 := (blk_cell HB1.out 0).trans rfl
  have bc1 := (blk_cell HB1.out 1).trans rfl
  have bc2 := (blk_cell HB1.out 2).trans rfl
  have bc3 := (blk_cell HB1.out 3).trans rfl
  have bc4 := (blk_cell HB1.out 4).trans rfl
  have bf0 := blk_frozen HB1.out 0
  have bf1 := blk_frozen HB1.out 1
  have bf2 := blk_frozen HB1.out 2
  have bf3 := blk_frozen HB1.out 3
  have bf4 := blk_frozen HB1.out 4
  have bl := lt_of_blk HB1.out
  go_wp2_with fail
  refine bodyPost_ret (results_row_tmp2 rfl _ _ (w.heap.size + 1) 27 _ (0, 0) _ rfl (put27 HB1.out rfl _ _ _ _ _) Try.underlying27 rfl size27) rfl ?_
  exact ⟨rfl, ex_put27 HX1.out (.inr (by omega)) _ _ _ _ _⟩

/-- what is got: the value r.v, in memory of its own -/
def Got (v : S27) (had : Bool) (w : World) (e : Ending) (w' : World) : Prop :=
  ∃ (A : Option Addr) (c : Nat), e = .returned (.tuple #[.agg #[.int .u8 v.f0, .int .i64 v.f1, .string v.f2, .slice A v.f3.length c, .int .i64 v.f4], .bool had, .int .i64 0]) ∧ v.f3.length ≤ c ∧ Kd.R k27 27 w' w.heap.size (fun k => w.heap.size ≤ k) (.slice A v.f3.length c) v.f3 ∧ Ex (fun _ => False) w w'

set_option maxHeartbeats 1000000 in
set_option maxRecDepth 100000 in
theorem get_at (x v kx : S27) (A B C : Option Addr) (c d ck g mb : Nat) (n : Int) (had : Bool) (b3 b4 : Value) (w : World) (ok : Nat → Prop) (h : w.heap[g]? = some (.cells #[.map (some mb), b3, b4] 66 (0, 0))) (hF : Kd.F k27 w ok A x.f3.length x.f3) (hm : mayV x = true) (hv : mayV v = true) (hd : v.f3.length ≤ d) (okv : Nat → Prop) (hFv : Kd.F k27 w okv B v.f3.length v.f3)
    (m : Mk) (hmk : ∀ m2, MarkOf x m2 → m2 = m) (hkey : Key m)
    (hlk : ∀ w1, Ex (fun _ => False) w w1 → (Instr.lookup 63 (.map (some mb)) m.val true).run Try.prog w1 = .ok (.tuple #[.agg #[.int .u8 kx.f0, .int .i64 kx.f1, .string kx.f2, .slice C kx.f3.length ck, .int .i64 kx.f4, .int .u8 v.f0, .int .i64 v.f1, .string v.f2, .slice B v.f3.length d, .int .i64 v.f4, .int .i64 n], .bool had]) w1) :
    GET x A c g w (Got v had w) := by
  have HG := Aside0.mk h
  have HF := Aside0.mk hF
  have HM := Aside0.mk hm
  have HV := Aside0.mk (And.intro hv hd)
  have HFV := Aside0.mk hFv
  have HMK := Aside0.mk hmk
  have HKEY := Aside0.mk hkey
  have HLK := Aside0.mk hlk
  clear h hF hm hv hd hFv hmk hkey hlk
  unfold GET
  go_enter Try.func19, Try.ntmps19
  go_wp2_with fail
  refine (find_key' x A c g mb _ _ _ ok (blk_alloc (blk_alloc HG.out _) _) (Kd.F_alloc (Kd.F_alloc HF.out _) _) HM.out).mono ?_
  rintro e w1 ⟨m2, h1, h2, hx1, rfl⟩
  have hm2 := HMK.out m2 h1
  subst hm2
  have hk' := HKEY.out.1
  rw [hk']
  have HB1 := Aside0.mk (show w1.heap[w.heap.size + 1]? = some (.cells #[.int .u8 0, .int .i64 0, .string ⟨#[]⟩, .slice none 0 0, .int .i64 0] 27 (0, 0)) from hx1.blk (blk_new2 w _ _) (fun h => h))
  have HG1 := Aside0.mk (hx1.blk (blk_alloc (blk_alloc HG.out _) _) (fun h => h))
  have HX1 := Aside0.mk ((((Ex.refl (fun _ => False) w).alloc _).alloc _).trans hx1 (fun _ h => h.elim))
  have hlk' := HLK.out w1 HX1.out
  obtain ⟨t1, u1, hu1⟩ := m2.val_iface
  rw [hu1]
  rw [hu1] at hlk'
  clear hx1 hk' h1 h2 hu1
  have gc0 := (blk_cell HG1.out 0).trans rfl
  have gl := lt_of_blk HG1.out
  go_wp2_with fail
  refine (own_calls v B d _ okv HV.out.2 (Kd.F_alloc (ex_F HX1.out HFV.out (fun _ _ h => h)) _) HV.out.1).mono ?_
  rintro e w2 ⟨v2, rfl, A3, c3, rfl, l3, hR, hx2⟩
  have HB2 := Aside0.mk (hx2.blk (blk_alloc HB1.out _) (fun h => h))
  have HX2 := Aside0.mk ((HX1.out.alloc (.cells #[.int .u8 kx.f0, .int .i64 kx.f1, .string kx.f2, .slice C kx.f3.length ck, .int .i64 kx.f4, .int .u8 v.f0, .int .i64 v.f1, .string v.f2, .slice B v.f3.length d, .int .i64 v.f4, .int .i64 n] 78)).trans hx2 (fun _ h => h.elim))
  have HRR := Aside0.mk hR
  have HL3 := Aside0.mk l3
  have HSZ := Aside0.mk (show w.heap.size + 1 < w1.heap.size from lt_of_blk HB1.out)
  have bc0 := (blk_cell HB2.out 0).trans rfl
  have bc1 := (blk_cell HB2.out 1).trans rfl
  have bc2 := (blk_cell HB2.out 2).trans rfl
  have bc3 := (blk_cell HB2.out 3).trans rfl
  have bc4 := (blk_cell HB2.out 4).trans rfl
  have bf0 := blk_frozen HB2.out 0
  have bf1 := blk_frozen HB2.out 1
  have bf2 := blk_frozen HB2.out 2
  have bf3 := blk_frozen HB2.out 3
  have bf4 := blk_frozen HB2.out 4
  have bl := lt_of_blk HB2.out
  clear hx2 hR l3 gc0 gl hlk'
  go_wp2_with fail
  refine bodyPost_ret (results_row_tmp2 rfl _ _ (w.heap.size + 1) 27 _ (0, 0) _ rfl (put27 HB2.out rfl _ _ _ _ _) Try.underlying27 rfl size27) rfl ?_
  refine ⟨A3, c3, rfl, HL3.out, ?_, ex_put27 HX2.out (.inr (by omega)) _ _ _ _ _⟩
  have hR := Kd.R_lower (Kd.R_mono (Kd.R_bound HRR.out) (fun k hk => (show w.heap.size ≤ k ∧ k ≠ w.heap.size + 1 by have h1 := hk.1; have := HSZ.out; simp at h1; omega))) (show w.heap.size ≤ _ by have := HSZ.out; simp; omega)
  refine Kd.R_mono (Kd.R_step hR ?_) (fun k hk => hk.1)
  intro k hk hlt
  exact (ex_put27 (Ex.refl (fun b => b = w.heap.size + 1) _) (.inl rfl) _ _ _ _ _).block k hlt hk.2

theorem mem_row {T : Nat → Prop} {w : World} {g mb ob : Nat} {rows : List Row} {came : Nat} (h : Tab w g mb ob T rows came) {j : Nat} {r : Row} (hr : rows[j]? = some r) : r.Good w (fun b => T b ∧ b ≠ g ∧ b ≠ mb ∧ b ≠ ob) :=
  h.good r (List.mem_of_getElem? hr)

/-- Get, whatever it is called with -/
def GetS (x : S27) (rows : List Row) (w : World) (e : Ending) (w' : World) : Prop :=
  mayV x = false ∧ e = .returned (.tuple #[zval, .bool false, .int .i64 2]) ∧ Ex (fun _ => False) w w' ∨
  mayV x = true ∧ ¬ KeyV x ∧ e = .returned (.tuple #[zval, .bool false, .int .i64 40]) ∧ Ex (fun _ => False) w w' ∨
  mayV x = true ∧ ∃ m, MarkOf x m ∧ Key m ∧ ((m ∉ rows.map (·.m) ∧ Got z27 false w e w') ∨ ∃ (j : Nat) (r : Row), rows[j]? = some r ∧ r.m = m ∧ Got r.v true w e w')

theorem get_calls (x : S27) (A : Option Addr) (c g mb ob : Nat) (T ok : Nat → Prop) (rows : List Row) (came : Nat) (w : World) (h : Tab w g mb ob T rows came) (hF : Kd.F k27 w ok A x.f3.length x.f3) : GET x A c g w (GetS x rows w) := by
  have hF2 := Kd.F_alloc (Kd.F_alloc hF (.cells #[.int .u8 x.f0, .int .i64 x.f1, .string x.f2, .slice A x.f3.length c, .int .i64 x.f4] 27)) (.cells #[.int .u8 0, .int .i64 0, .string ⟨#[]⟩, .slice none 0 0, .int .i64 0] 27)
  have hg2 := blk_alloc (blk_alloc h.hg (.cells #[.int .u8 x.f0, .int .i64 x.f1, .string x.f2, .slice A x.f3.length c, .int .i64 x.f4] 27)) (.cells #[.int .u8 0, .int .i64 0, .string ⟨#[]⟩, .slice none 0 0, .int .i64 0] 27)
  cases hm : mayV x with
  | false => exact (get_err x A c g w 2 rfl (fun _ => True) (find_arg x A c g mb _ _ _ ok hg2 hF2 hm)).mono (fun e w' he => .inl ⟨hm, he.1, he.2⟩)
  | true =>
    by_cases hk : KeyV x
    · obtain ⟨m, h1, h2, h3⟩ := key_mark hm hk
      obtain ⟨i0, hi0, hz0, _, _⟩ := info_parts info78
      obtain ⟨es, cl, hmb, hes⟩ := h.hm
      have hlk : ∀ w1, Ex (fun _ => False) w w1 → (Instr.lookup 63 (.map (some mb)) m.val true).run Try.prog w1 = .ok (.tuple #[(under es zrow.val (posMk m (rows.map (·.m)))).1, .bool (under es zrow.val (posMk m (rows.map (·.m)))).2]) w1 :=
        fun w1 hx => run_lookup 63 78 Try.underlying63 hi0 hz0 (hx.blk hmb (fun h => h)) h2 h.key_all (h.keys_map hes) true
      cases hp : posMk m (rows.map (·.m)) with
      | none =>
        rw [hp] at hlk
        refine (get_at x z27 z27 A none none c 0 0 g mb 0 false _ _ w ok h.hg hF hm may_z (Nat.zero_le _) (fun _ => False) (fun W' _ => Kd.C_nil k27 W') m h3 h2 hlk).mono (fun e w' he => .inr (.inr ⟨hm, m, h1, h2, .inl ⟨?_, he⟩⟩))
        exact fun hmem => posMk_none h2.1 hp m hmem rfl
      | some j =>
        have hj := posMk_key h2.1 (fun m h' => (h.key_all m h').1) hp
        rw [List.getElem?_map] at hj
        cases hr : rows[j]? with
        | none => rw [hr] at hj; simp at hj
        | some r =>
          rw [hr] at hj
          have hrm : r.m = m := by simpa using hj
          rw [hp, under_row hes hr] at hlk
          have hgd := mem_row h hr
          exact (get_at x r.v r.k A r.B r.A c r.cb r.ca g mb r.n true _ _ w ok h.hg hF hm hgd.mayv hgd.lv _ hgd.fv m h3 h2 hlk).mono (fun e w' he => .inr (.inr ⟨hm, m, h1, h2, .inr ⟨j, r, hr, hrm, he⟩⟩))
    · have hfind : Calls Try.prog 39 #[.pointer (some ⟨g, 0, none⟩), .agg #[.int .u8 x.f0, .int .i64 x.f1, .string x.f2, .slice A x.f3.length c, .int .i64 x.f4]] ((w.alloc (.cells #[.int .u8 x.f0, .int .i64 x.f1, .string x.f2, .slice A x.f3.length c, .int .i64 x.f4] 27)).alloc (.cells #[.int .u8 0, .int .i64 0, .string ⟨#[]⟩, .slice none 0 0, .int .i64 0] 27)) fun e w' => e = .returned (.tuple #[.nilIface, .int .i64 40]) ∧ Ex (fun _ => False) ((w.alloc (.cells #[.int .u8 x.f0, .int .i64 x.f1, .string x.f2, .slice A x.f3.length c, .int .i64 x.f4] 27)).alloc (.cells #[.int .u8 0, .int .i64 0, .string ⟨#[]⟩, .slice none 0 0, .int .i64 0] 27)) w' := by
        refine (find_key' x A c g mb _ _ _ ok hg2 hF2 hm).mono ?_
        rintro e w' ⟨m, h1, h2, hx, he⟩
        rw [no_key hk m h1, if_neg (by decide)] at he
        exact ⟨he, hx⟩
      exact (get_err x A c g w 40 rfl (fun _ => True) hfind).mono (fun e w' he => .inr (.inl ⟨hm, hk, he.1, he.2⟩))

end Go.Proofs.Ythkemcekcfccpaa.PBrandCompares

namespace Go.Proofs.Ythkemcekcfccpaa.PBrandCompares
open Go.RowKit Go.Proofs.YthkemcekcfccpaaW.PrintWords Go.Proofs.YthkemcekcfccpaaW.PrintLast Go.Proofs.YthkemcekcfccpaaW.PrintMore
open Go.Proofs.Ythkemcekcfccpaa.GBrandCompares
set_option linter.unusedVariables false
set_option linter.unusedSimpArgs false

abbrev alikeE (x y : S27) (k : Nat) : Option Bool := posternlaw04_alike.f k x.f0 x.f1 x.f2 x.f3 x.f4 y.f0 y.f1 y.f2 y.f3 y.f4
abbrev alikeLE (x y : S27) (i : Int) (k : Nat) : Option Bool := posternlaw04_alike.l0 k i x.f0 x.f1 x.f2 x.f3 x.f4 y.f0 y.f1 y.f2 y.f3 y.f4

theorem alike_ev (x : S27) : ∀ y : S27, Lens x → ∃ b, Ev (alikeE x y) b ∧ (b = true ↔ x = y) := by
  induction x using S27.ind with
  | h x ih =>
    intro y hw
    have hlen := hw.len
    have hloop : x.f3.length = y.f3.length → ∀ (m i : Nat), m + i = x.f3.length → ∃ b, Ev (alikeLE x y i) b ∧ (b = true ↔ x.f3.drop i = y.f3.drop i) := by
      intro hl m
      induction m with
      | zero =>
        intro i hi
        refine ⟨true, Ev.step (f := fun k => some true) (fun k => ?_) (Ev.now true), ?_⟩
        · simp only [alikeLE, posternlaw04_alike.l0]; rw [if_neg (by omega)]
        · rw [List.drop_eq_nil_of_le (by omega), List.drop_eq_nil_of_le (by omega)]; simp
      | succ m ihm =>
        intro i hi
        have hlt : i < x.f3.length := by omega
        rw [drop_rd hlt, drop_rd (xs := y.f3) (i := i) (by omega)]
        obtain ⟨b1, h1, hf1⟩ := ih _ (rd_mem hlt) (rd_T27 y.f3 i) (hw.sub (rd_mem hlt))
        have hstep : ∀ k, alikeLE x y i (k + 1) = (alikeE (rd_T27 x.f3 i) (rd_T27 y.f3 i) k).bind fun t => if t = true then alikeLE x y ((i + 1 : Nat) : Int) k else some false := by
          intro k
          simp only [alikeLE, posternlaw04_alike.l0]
          rw [if_pos (by omega), if_pos (by omega), if_pos (by omega), wrap_id (n := (i : Int) + 1) (by omega) (by omega)]
          rfl
        cases b1
        · refine ⟨false, Ev.step hstep (Ev.bind h1 (by simpa using Ev.now false)), ?_⟩
          refine ⟨fun h => by simp at h, fun h => ?_⟩
          have := hf1.2 (List.cons.inj h).1
          simp at this
        · obtain ⟨b2, h2, hf2⟩ := ihm (i + 1) (by omega)
          refine ⟨b2, Ev.step hstep (Ev.bind h1 (by simpa using h2)), ?_⟩
          rw [hf2, hf1.1 rfl]
          simp
    have hjt : Ev (fun k => posternlaw04_alike.j0 k true x.f0 x.f1 x.f2 x.f3 x.f4 y.f0 y.f1 y.f2 y.f3 y.f4) false := Ev.step (f := fun k => some false) (fun k => by simp [posternlaw04_alike.j0]) (Ev.now false)
    by_cases h0 : x.f0 = y.f0
    · by_cases h1 : x.f1 = y.f1
      · by_cases h2 : x.f2 = y.f2
        · by_cases h4 : x.f4 = y.f4
          · by_cases hl : x.f3.length = y.f3.length
            · obtain ⟨b, hb, hf⟩ := hloop hl x.f3.length 0 (by omega)
              refine ⟨b, Ev.step (f := fun k => posternlaw04_alike.j0 k ((x.f3.length : Int) != (y.f3.length : Int)) x.f0 x.f1 x.f2 x.f3 x.f4 y.f0 y.f1 y.f2 y.f3 y.f4) (fun k => ?_) ?_, ?_⟩
              · simp only [alikeE, posternlaw04_alike.f]; rw [if_pos h0, if_pos h1, if_pos ((bytes_eq _ _).2 h2), if_pos h4]
              · refine Ev.step (f := fun k => alikeLE x y 0 k) (fun k => ?_) (by simpa using hb)
                have : ((x.f3.length : Int) != (y.f3.length : Int)) = false := by simp [hl]
                simp [posternlaw04_alike.j0, this]
              · rw [hf]
                simp only [List.drop_zero]
                exact ⟨fun h => S27.ext h0 h1 h2 h h4, fun h => by rw [h]⟩
            · refine ⟨false, Ev.step (f := fun k => posternlaw04_alike.j0 k ((x.f3.length : Int) != (y.f3.length : Int)) x.f0 x.f1 x.f2 x.f3 x.f4 y.f0 y.f1 y.f2 y.f3 y.f4) (fun k => ?_) ?_, ?_⟩
              · simp only [alikeE, posternlaw04_alike.f]; rw [if_pos h0, if_pos h1, if_pos ((bytes_eq _ _).2 h2), if_pos h4]
              · rw [show ((x.f3.length : Int) != (y.f3.length : Int)) = true by simp; omega]; exact hjt
              · refine ⟨fun h => by simp at h, fun h => absurd (by rw [h]) hl⟩
          · refine ⟨false, Ev.step (fun k => ?_) hjt, ⟨fun h => by simp at h, fun h => absurd (by rw [h]) h4⟩⟩
            simp only [alikeE, posternlaw04_alike.f]; rw [if_pos h0, if_pos h1, if_pos ((bytes_eq _ _).2 h2), if_neg h4]
        · refine ⟨false, Ev.step (fun k => ?_) hjt, ⟨fun h => by simp at h, fun h => absurd (by rw [h]) h2⟩⟩
          simp only [alikeE, posternlaw04_alike.f]; rw [if_pos h0, if_pos h1, if_neg (fun h => h2 ((bytes_eq _ _).1 h))]
      · refine ⟨false, Ev.step (fun k => ?_) hjt, ⟨fun h => by simp at h, fun h => absurd (by rw [h]) h1⟩⟩
        simp only [alikeE, posternlaw04_alike.f]; rw [if_pos h0, if_neg h1]
    · refine ⟨false, Ev.step (fun k => ?_) hjt, ⟨fun h => by simp at h, fun h => absurd (by rw [h]) h0⟩⟩
      simp only [alikeE, posternlaw04_alike.f]; rw [if_neg h0]


open Classical in
noncomputable def eqV (x y : S27) : Bool := decide (x = y)
theorem eqV_iff {x y : S27} : eqV x y = true ↔ x = y := by unfold eqV; simp
theorem eqV_no {x y : S27} (h : x ≠ y) : eqV x y = false := by
  cases hb : eqV x y with
  | false => rfl
  | true => exact absurd (eqV_iff.1 hb) h
theorem alike_calls (x y : S27) (A B : Option Addr) (c d : Nat) (w : World) (hc : x.f3.length ≤ c) (hC : Kd.C k27 w A x.f3.length x.f3) (hd : y.f3.length ≤ d) (hD : Kd.C k27 w B y.f3.length y.f3) (hl : Lens x) :
    Calls Try.prog 16 #[.agg #[.int .u8 x.f0, .int .i64 x.f1, .string x.f2, .slice A x.f3.length c, .int .i64 x.f4], .agg #[.int .u8 y.f0, .int .i64 y.f1, .string y.f2, .slice B y.f3.length d, .int .i64 y.f4]] w fun e w' => e = .returned (.bool (eqV x y)) ∧ Below w.heap.size w w' := by
  obtain ⟨b, hb, hi⟩ := alike_ev x y hl
  obtain ⟨k, h⟩ := hb.rounds
  have he : b = eqV x y := by rw [Bool.eq_iff_iff, hi, eqV_iff]
  rw [← he]
  exact posternlaw04_alike.calls k x.f0 x.f1 x.f2 A c x.f3 x.f4 y.f0 y.f1 y.f2 B d y.f3 y.f4 _ w hC hc hD hd h

/-- marks that can be keys tell values apart -/
theorem mark_inj (m : Mk) : ∀ x y : S27, MarkOf x m → MarkOf y m → m.keys = true → Fields x → Fields y → x = y := by
  induction m with
  | pair a b iha ihb =>
    intro x y h h2 hk hf hg
    obtain ⟨k3, y1, z1, hl, ha, hb⟩ := h
    obtain ⟨k32, y2, z2, hl2, ha2, hb2⟩ := h2
    simp only [Mk.keys, Bool.and_eq_true] at hk
    have m1 : y1 ∈ x.f3 := by rw [hl]; simp
    have m2 : z1 ∈ x.f3 := by rw [hl]; simp
    have m3 : y2 ∈ y.f3 := by rw [hl2]; simp
    have m4 : z2 ∈ y.f3 := by rw [hl2]; simp
    have e1 := iha y1 y2 ha ha2 hk.1 (hf.sub m1) (hg.sub m3)
    have e2 := ihb z1 z2 hb hb2 hk.2 (hf.sub m2) (hg.sub m4)
    have f1 := hf.now
    have f2 := hg.now
    unfold Field at f1 f2
    exact S27.ext (by omega) (by omega) (same_of_nil (by omega) (by omega)) (by rw [hl, hl2, e1, e2]) (by omega)
  | row v => intro x y h h2 hk; simp [Mk.keys] at hk
  | _ =>
    intro x y h h2 hk hf hg
    have f1 := hf.now
    have f2 := hg.now
    have hs : shapeV x = shapeV y := by rw [mark_shape f1 h, mark_shape f2 h2]
    have h5 : shapeV x ≠ 5 := by rw [mark_shape f1 h]; simp
    have h3 : shapeV x ≠ 3 := by rw [mark_shape f1 h]; simp
    have hc := plain_cmp f1 f2 h h2 hs h5 h3
    by_cases e : x = y
    · exact e
    · exfalso
      have h0 := hc.2 e
      rcases cmp_keys _ _ hk hk with ⟨h1, _⟩ | ⟨_, h1⟩
      · rw [h0] at h1; simp at h1
      · exact h1 rfl

/-! ### what a table says behind i puts -/
structure Puts (K V : List S27) (i : Nat) (rows : List Row) (came : Nat) : Prop where
  few : came ≤ i
  cnt : rows.length ≤ i
  all : ∀ l k v, l < i → K[l]? = some k → V[l]? = some v → mayV k = true → mayV v = true → KeyV k → k ∈ rows.map (·.k)
  last : ∀ (j : Nat) (r : Row), rows[j]? = some r → ∃ l, l < i ∧ K[l]? = some r.k ∧ V[l]? = some r.v ∧ mayV r.v = true ∧ ∀ l' v', l < l' → l' < i → K[l']? = some r.k → V[l']? = some v' → mayV v' = false

theorem Puts.start (K V : List S27) : Puts K V 0 [] 0 := ⟨Nat.le_refl _, by simp, fun l _ _ h => by omega, fun j r h => by simp at h⟩

/-- a put that has failed: some key or value that may not be, or a key that can be none -/
theorem Puts.skip {K V : List S27} {i : Nat} {rows : List Row} {came : Nat} {k v : S27} (h : Puts K V i rows came) (hk : K[i]? = some k) (hv : V[i]? = some v) (hg : ∀ r ∈ rows, mayV r.k = true ∧ KeyV r.k) (hn : (mayV k = false ∨ mayV v = false) ∨ ¬ KeyV k) :
    Puts K V (i + 1) rows came := by
  refine ⟨by have := h.few; omega, by have := h.cnt; omega, fun l k' v' hl hk' hv' hm hn' hkey => ?_, fun j r hr => ?_⟩
  · by_cases e : l = i
    · subst e
      rw [hk] at hk'; rw [hv] at hv'
      cases hk'; cases hv'
      rcases hn with (h1 | h1) | h1
      · rw [h1] at hm; simp at hm
      · rw [h1] at hn'; simp at hn'
      · exact absurd hkey h1
    · exact h.all l k' v' (by omega) hk' hv' hm hn' hkey
  · obtain ⟨l, h1, h2, h3, h4, h5⟩ := h.last j r hr
    refine ⟨l, by omega, h2, h3, h4, fun l' v' hl hl' hk' hv' => ?_⟩
    by_cases e : l' = i
    · subst e
      rw [hk] at hk'; rw [hv] at hv'
      cases hk'; cases hv'
      have hgr := hg r (List.mem_of_getElem? hr)
      rcases hn with (h1 | h1) | h1
      · rw [h1] at hgr; simp at hgr
      · exact h1
      · exact absurd hgr.2 h1
    · exact h5 l' v' hl (by omega) hk' hv'

theorem Puts.new {K V : List S27} {i : Nat} {rows : List Row} {came : Nat} {k v : S27} {r : Row} (h : Puts K V i rows came) (hk : K[i]? = some k) (hv : V[i]? = some v) (hrk : r.k = k) (hrv : r.v = v) (hmv : mayV v = true) (hnew : k ∉ rows.map (·.k)) :
    Puts K V (i + 1) (rows ++ [r]) (came + 1) := by
  refine ⟨by have := h.few; omega, by have := h.cnt; simp; omega, fun l k' v' hl hk' hv' hm hn' hkey => ?_, fun j r' hr => ?_⟩
  · by_cases e : l = i
    · subst e
      rw [hk] at hk'
      cases hk'
      simp [hrk]
    · have := h.all l k' v' (by omega) hk' hv' hm hn' hkey
      simp only [List.map_append, List.mem_append]
      exact .inl this
  · by_cases hj : j < rows.length
    · rw [List.getElem?_append_left hj] at hr
      obtain ⟨l, h1, h2, h3, h4, h5⟩ := h.last j r' hr
      refine ⟨l, by omega, h2, h3, h4, fun l' v' hl hl' hk' hv' => ?_⟩
      by_cases e : l' = i
      · subst e
        rw [hk] at hk'
        cases hk'
        exact absurd (List.mem_map.2 ⟨r', List.mem_of_getElem? hr, rfl⟩) hnew
      · exact h5 l' v' hl (by omega) hk' hv'
    · have hj2 := (List.getElem?_eq_some_iff.1 hr).1
      have hj3 : j = rows.length := by simp at hj2; omega
      subst hj3
      simp at hr
      subst hr
      exact ⟨i, by omega, by rw [hk, hrk], by rw [hv, hrv], by rw [hrv]; exact hmv, fun l' v' hl hl' _ _ => by omega⟩

theorem Puts.old {K V : List S27} {i j : Nat} {rows : List Row} {came : Nat} {k v : S27} {r : Row} {B : Option Addr} {d : Nat} (h : Puts K V i rows came) (hk : K[i]? = some k) (hv : V[i]? = some v) (hr : rows[j]? = some r) (hrk : r.k = k) (hmv : mayV v = true) (hne : ∀ (j' : Nat) (r' : Row), rows[j']? = some r' → j' ≠ j → r'.k ≠ k) :
    Puts K V (i + 1) (rows.set j (r.turn v B d)) came := by
  have hjl : j < rows.length := (List.getElem?_eq_some_iff.1 hr).1
  have hmap : (rows.set j (r.turn v B d)).map (·.k) = rows.map (·.k) := by
    rw [List.map_set]
    apply List.ext_getElem?
    intro n
    rw [List.getElem?_set]
    split
    · rename_i e
      subst e
      simp only [List.length_map, hjl, if_true, List.getElem?_map, hr, Option.map_some]
      rfl
    · rfl
  refine ⟨by have := h.few; omega, by have := h.cnt; simp; omega, fun l k' v' hl hk' hv' hm hn' hkey => ?_, fun j' r' hr' => ?_⟩
  · rw [hmap]
    by_cases e : l = i
    · subst e
      rw [hk] at hk'
      cases hk'
      exact List.mem_map.2 ⟨r, List.mem_of_getElem? hr, hrk⟩
    · exact h.all l k' v' (by omega) hk' hv' hm hn' hkey
  · rw [List.getElem?_set] at hr'
    by_cases e : j = j'
    · subst e
      simp only [if_true, hjl] at hr'
      cases hr'
      exact ⟨i, by omega, by rw [hk, ← hrk]; rfl, hv, hmv, fun l' v' hl hl' _ _ => by omega⟩
    · rw [if_neg e] at hr'
      obtain ⟨l, h1, h2, h3, h4, h5⟩ := h.last j' r' hr'
      refine ⟨l, by omega, h2, h3, h4, fun l' v' hl hl' hk' hv' => ?_⟩
      by_cases e2 : l' = i
      · subst e2
        rw [hk] at hk'
        exact absurd (Option.some.inj hk').symm (hne j' r' hr' (Ne.symm e))
      · exact h5 l' v' hl (by omega) hk' hv'

/-! ### a row of values that share their lists -/
structure El where
  x : S27
  A : Option Addr
  c : Nat
def El.cells (e : El) : List Value := [.int .u8 e.x.f0, .int .i64 e.x.f1, .string e.x.f2, .slice e.A e.x.f3.length e.c, .int .i64 e.x.f4]
structure El.Good (w : World) (ok : Nat → Prop) (e : El) : Prop where
  le : e.x.f3.length ≤ e.c
  F : Kd.F k27 w ok e.A e.x.f3.length e.x.f3
theorem El.Good.ex {S ok : Nat → Prop} {w w1 : World} {e : El} (h : e.Good w ok) (hx : Ex S w w1) (hs : ∀ k, ok k → ¬ S k) : e.Good w1 ok := ⟨h.le, ex_F hx h.F hs⟩
theorem els_get (es : List El) : ∀ k e j, es[k]? = some e → j < 5 → (es.flatMap El.cells)[k * 5 + j]? = e.cells[j]? := by
  induction es with
  | nil => intro k e j h; simp at h
  | cons a es ih =>
    intro k e j h hj
    rw [List.flatMap_cons]
    cases k with
    | zero =>
      simp at h
      subst h
      rw [List.getElem?_append_left (by simp [El.cells]; omega)]
      simp
    | succ k =>
      rw [List.getElem?_append_right (by simp [El.cells]; omega), show (k + 1) * 5 + j - a.cells.length = k * 5 + j by simp [El.cells]; omega]
      exact ih k e j (by simpa using h) hj
theorem own_slice {w : World} {base : Nat} {v : Value} {es : List El} (h : w.ownsRow base 27 5 v es.length (es.flatMap El.cells)) :
    ∃ M c, v = .slice M es.length c ∧ es.length ≤ c ∧ ∀ k e, es[k]? = some e → ∃ g, M = some ⟨g, 0, none⟩ ∧ v.ownBlock = some g ∧ base ≤ g ∧ ∀ j u, e.cells[j]? = some u → w.cell? ⟨g, k * 5 + j, none⟩ = some u := by
  rcases h.2 with ⟨rfl, h0⟩ | ⟨g, cap, cur, rfl, hb, hg, hn, hm, hcs, hct⟩
  · refine ⟨none, 0, by rw [h0], by omega, fun k e hk => ?_⟩
    have := (List.getElem?_eq_some_iff.1 hk).1
    omega
  · refine ⟨some ⟨g, 0, none⟩, cap, rfl, hn, fun k e hk => ⟨g, rfl, rfl, hb, fun j u hj => ?_⟩⟩
    have hkl := (List.getElem?_eq_some_iff.1 hk).1
    have hj5 : j < 5 := by have := (List.getElem?_eq_some_iff.1 hj).1; simpa [El.cells] using this
    rw [blk_cell hg (k * 5 + j)]
    have h1 := els_get es k e j hk hj5
    rw [← hct, List.getElem?_take, if_pos (by omega)] at h1
    simpa [hj] using h1

end Go.Proofs.Ythkemcekcfccpaa.PBrandCompares

namespace Go.Proofs.Ythkemcekcfccpaa.PBrandCompares
open Go.RowKit Go.Proofs.YthkemcekcfccpaaW.PrintWords Go.Proofs.YthkemcekcfccpaaW.PrintLast Go.Proofs.YthkemcekcfccpaaW.PrintMore
open Go.Proofs.Ythkemcekcfccpaa.GBrandCompares
set_option linter.unusedVariables false
set_option linter.unusedSimpArgs false

section
variable (x y : S27) (A B : Option Addr) (c d g mb ob : Nat) (T ok : Nat → Prop) (rows : List Row) (came : Nat) (w : World) (h : Tab w g mb ob T rows came) (hcame : came < 1000000000) (hc : x.f3.length ≤ c) (hd : y.f3.length ≤ d)
    (hF : Kd.F k27 w ok A x.f3.length x.f3) (hF2 : Kd.F k27 w ok B y.f3.length y.f3) (hok : ∀ b, ok b → ¬ T b)
include h hcame hc hd hF hF2 hok
theorem put_err1 (he : mayV x = false ∨ mayV y = false) : PUT x y A B c d g w fun e w' => e = .returned (.tuple #[.agg #[.int .u8 0, .int .i64 0, .string ⟨#[]⟩, .slice none 0 0, .int .i64 0], .bool false, .int .i64 2]) ∧ Ex (fun _ => False) w w' := by
  refine (put_calls x y A B c d g mb ob T ok rows came w h hcame hc hd hF hF2 hok).mono ?_
  rintro e w' (⟨_, h1, h2⟩ | ⟨hm, _⟩ | ⟨hm, _⟩)
  · exact ⟨h1, h2⟩
  · rw [hm.1, hm.2] at he; simp at he
  · rw [hm.1, hm.2] at he; simp at he
theorem put_err2 (hm : mayV x = true) (hn : mayV y = true) (hk : ¬ KeyV x) : PUT x y A B c d g w fun e w' => e = .returned (.tuple #[.agg #[.int .u8 0, .int .i64 0, .string ⟨#[]⟩, .slice none 0 0, .int .i64 0], .bool false, .int .i64 40]) ∧ Ex (fun _ => False) w w' := by
  refine (put_calls x y A B c d g mb ob T ok rows came w h hcame hc hd hF hF2 hok).mono ?_
  rintro e w' (⟨he, _⟩ | ⟨_, _, h1, h2⟩ | ⟨_, _, m, h1, h2, _⟩)
  · rw [hm, hn] at he; simp at he
  · exact ⟨h1, h2⟩
  · exact absurd ⟨m, h1, h2.1⟩ hk
theorem put_isnew (hm : mayV x = true) (hn : mayV y = true) (m : Mk) (hx : MarkOf x m) (hk : m.keys = true) (hnew : m ∉ rows.map (·.m)) : PUT x y A B c d g w fun e w' => e = .returned (.tuple #[.agg #[.int .u8 0, .int .i64 0, .string ⟨#[]⟩, .slice none 0 0, .int .i64 0], .bool false, .int .i64 0]) ∧
    Ex (fun b => b = g ∨ b = mb ∨ b = ob) w w' ∧ ∃ r : Row, r.m = m ∧ r.k = x ∧ r.v = y ∧ Tab w' g mb ob (fun b => T b ∨ w.heap.size ≤ b) (rows ++ [r]) (came + 1) := by
  refine (put_calls x y A B c d g mb ob T ok rows came w h hcame hc hd hF hF2 hok).mono ?_
  rintro e w' (⟨he, _⟩ | ⟨_, h1, _⟩ | ⟨_, hex, m2, h1, h2, hh⟩)
  · rw [hm, hn] at he; simp at he
  · exact absurd ⟨m, hx, hk⟩ h1
  · have hmm := (mark_one m x m2 hx h1).2 hk
    subst hmm
    rcases hh with ⟨_, he, r, h3, h4, h5, _, h6⟩ | ⟨j, r, hr, hrm, _⟩
    · exact ⟨he, hex, r, h3, h4, h5, h6⟩
    · exact absurd (List.mem_map.2 ⟨r, List.mem_of_getElem? hr, hrm⟩) hnew
theorem put_isold (hm : mayV x = true) (hn : mayV y = true) (m : Mk) (hx : MarkOf x m) (hk : m.keys = true) (j : Nat) (r : Row) (hr : rows[j]? = some r) (hrm : r.m = m) : PUT x y A B c d g w fun e w' => e = .returned (.tuple #[.agg #[.int .u8 r.v.f0, .int .i64 r.v.f1, .string r.v.f2, .slice r.B r.v.f3.length r.cb, .int .i64 r.v.f4], .bool true, .int .i64 0]) ∧
    Ex (fun b => b = g ∨ b = mb ∨ b = ob) w w' ∧ Kd.F k27 w' T r.B r.v.f3.length r.v.f3 ∧ ∃ B d, Tab w' g mb ob (fun b => T b ∨ w.heap.size ≤ b) (rows.set j (r.turn y B d)) came := by
  refine (put_calls x y A B c d g mb ob T ok rows came w h hcame hc hd hF hF2 hok).mono ?_
  rintro e w' (⟨he, _⟩ | ⟨_, h1, _⟩ | ⟨_, hex, m2, h1, h2, hh⟩)
  · rw [hm, hn] at he; simp at he
  · exact absurd ⟨m, hx, hk⟩ h1
  · have hmm := (mark_one m x m2 hx h1).2 hk
    subst hmm
    rcases hh with ⟨hno, _⟩ | ⟨j', r', hr', hrm', he, hf, B', d', ht⟩
    · exact absurd (List.mem_map.2 ⟨r, List.mem_of_getElem? hr, hrm⟩) hno
    · have hjj : j' = j := by
        have hp := h.marks
        rw [List.pairwise_iff_getElem] at hp
        obtain ⟨hj1, hj2⟩ := List.getElem?_eq_some_iff.1 hr
        obtain ⟨hk1, hk2⟩ := List.getElem?_eq_some_iff.1 hr'
        rcases Nat.lt_trichotomy j j' with hlt | heq | hgt
        · exact absurd (by rw [hj2, hk2, hrm, hrm']) (hp j j' hj1 hk1 hlt)
        · exact heq.symm
        · exact absurd (by rw [hj2, hk2, hrm, hrm']) (hp j' j hk1 hj1 hgt)
      subst hjj
      rw [hr] at hr'
      cases hr'
      exact ⟨he, hex, hf, B', d', ht⟩
end

/-- which of the four it is -/
theorem put_cases (x y : S27) (rows : List Row) : (mayV x = false ∨ mayV y = false) ∨ (mayV x = true ∧ mayV y = true ∧ ¬ KeyV x) ∨ (mayV x = true ∧ mayV y = true ∧ ∃ m, MarkOf x m ∧ m.keys = true ∧ m ∉ rows.map (·.m)) ∨ (mayV x = true ∧ mayV y = true ∧ ∃ (m : Mk) (j : Nat) (r : Row), MarkOf x m ∧ m.keys = true ∧ rows[j]? = some r ∧ r.m = m) := by
  cases hm : mayV x with
  | false => exact .inl (.inl rfl)
  | true =>
    cases hn : mayV y with
    | false => exact .inl (.inr rfl)
    | true =>
      by_cases hk : KeyV x
      · obtain ⟨m, h1, h2⟩ := hk
        by_cases hmem : m ∈ rows.map (·.m)
        · obtain ⟨r, hr, hrm⟩ := List.mem_map.1 hmem
          obtain ⟨j, hj⟩ := List.getElem?_of_mem hr
          exact .inr (.inr (.inr ⟨rfl, rfl, m, j, r, h1, h2, hj, hrm⟩))
        · exact .inr (.inr (.inl ⟨rfl, rfl, m, h1, h2, hmem⟩))
      · exact .inr (.inl ⟨rfl, rfl, hk⟩)

/-- rows' keys are just the values with their marks -/
theorem row_key {T : Nat → Prop} {w : World} {g mb ob : Nat} {rows : List Row} {came : Nat} (h : Tab w g mb ob T rows came) {x : S27} {m : Mk} (hx : MarkOf x m) (hm : mayV x = true) (hk : m.keys = true) {r : Row} (hr : r ∈ rows) : r.m = m ↔ r.k = x := by
  have hg := h.good r hr
  constructor
  · intro e
    exact mark_inj m r.k x (e ▸ hg.mark) hx hk ((may_iff _).1 hg.mayk).2.2 ((may_iff _).1 hm).2.2
  · intro e
    exact (mark_one m x r.m hx (e ▸ hg.mark)).2 hk
theorem row_may {T : Nat → Prop} {w : World} {g mb ob : Nat} {rows : List Row} {came : Nat} (h : Tab w g mb ob T rows came) : ∀ r ∈ rows, mayV r.k = true ∧ KeyV r.k := fun r hr => ⟨(h.good r hr).mayk, r.m, (h.good r hr).mark, (h.good r hr).key.1⟩

end Go.Proofs.Ythkemcekcfccpaa.PBrandCompares

namespace Go.Proofs.Ythkemcekcfccpaa.PBrandCompares
open Go.RowKit Go.Proofs.YthkemcekcfccpaaW.PrintWords Go.Proofs.YthkemcekcfccpaaW.PrintLast Go.Proofs.YthkemcekcfccpaaW.PrintMore
open Go.Proofs.Ythkemcekcfccpaa.GBrandCompares
set_option linter.unusedVariables false
set_option linter.unusedSimpArgs false

theorem rd_get {xs : List S27} {i : Nat} (h : i < xs.length) : xs[i]? = some (rd_T27 xs (i : Int)) := by
  unfold rd_T27
  rw [Int.toNat_natCast, List.getD_eq_getElem?_getD, List.getElem?_eq_getElem h]
  rfl

/-- a row that is read lies in its footprint -/
theorem F_block {w : World} {ok : Nat → Prop} {ad : Addr} {n : Nat} {xs : List S27} (h : Kd.F k27 w ok (some ad) n xs) {k : Nat} (hk : k < n) : ok (ad.add (k * 5)).block := by
  by_cases hb : ok (ad.add (k * 5)).block
  · exact hb
  · exfalso
    have hC := h ({ w with heap := w.heap.setIfInBounds (ad.add (k * 5)).block (.map #[] 0) }) (fun b hbk _ => by
      simp only [Array.getElem?_setIfInBounds]
      rw [if_neg (fun e : (ad.add (k * 5)).block = b => hb (by rw [e]; exact hbk))])
    obtain ⟨ad', c, e, _, hK, hc⟩ := Kd.C_get hC z27 (k : Int) (by omega) (by omega)
    cases e
    obtain ⟨A3, c3, rfl, _, _⟩ := k27_open hK
    have h0 := hc 0 _ rfl
    rw [show k27.sz = 5 from rfl] at h0
    simp only [Int.toNat_natCast, Nat.add_zero] at h0
    have hlt := block_lt_of_cell h0
    have hlt' : (ad.add (k * 5)).block < w.heap.size := by simpa using hlt
    have hs : (w.heap.setIfInBounds (ad.add (k * 5)).block (.map #[] 0))[(ad.add (k * 5)).block]? = some (.map #[] 0) := by simp [hlt']
    simp only [World.cell?, hs] at h0
    simp at h0

theorem at_S27 {w : World} {ok : Nat → Prop} {A : Option Addr} {n : Nat} {xs : List S27} (h : Kd.F k27 w ok A n xs) (k : Nat) (hk : k < n) :
    ∃ ad A3 c3, A = some ad ∧ (rd_T27 xs k).f3.length ≤ c3 ∧ Kd.F k27 w ok A3 (rd_T27 xs k).f3.length (rd_T27 xs k).f3 ∧ ∀ (S : Nat → Prop) (w' : World), Ex S w w' → (∀ b, ok b → ¬ S b) →
      w'.cell? (ad.add (k * 5)) = some (.int .u8 (rd_T27 xs k).f0) ∧ w'.cell? ⟨(ad.add (k * 5)).block, (ad.add (k * 5)).off + 1, none⟩ = some (.int .i64 (rd_T27 xs k).f1) ∧
      w'.cell? ⟨(ad.add (k * 5)).block, (ad.add (k * 5)).off + 2, none⟩ = some (.string (rd_T27 xs k).f2) ∧ w'.cell? ⟨(ad.add (k * 5)).block, (ad.add (k * 5)).off + 3, none⟩ = some (.slice A3 (rd_T27 xs k).f3.length c3) ∧
      w'.cell? ⟨(ad.add (k * 5)).block, (ad.add (k * 5)).off + 4, none⟩ = some (.int .i64 (rd_T27 xs k).f4) := by
  obtain ⟨ad, A3, c3, rfl, e0, e1, e2, e3, e4, hc3, hF3⟩ := at_F27 h k hk
  refine ⟨ad, A3, c3, rfl, hc3, hF3, fun S w' hx hs => ?_⟩
  have hb := F_block h hk
  have hlt := block_lt_of_cell e0
  have hm : ∀ (p : Addr) (v : Value), p.block = (ad.add (k * 5)).block → w.cell? p = some v → w'.cell? p = some v := by
    intro p v hp hv
    simp only [World.cell?] at hv ⊢
    rw [hp] at hv ⊢
    rw [hx.block _ hlt (hs _ hb)]
    exact hv
  exact ⟨hm _ _ rfl e0, hm _ _ rfl e1, hm _ _ rfl e2, hm _ _ rfl e3, hm _ _ rfl e4⟩

theorem Tab.bound {T : Nat → Prop} {w : World} {g mb ob : Nat} {rows : List Row} {came : Nat} (h : Tab w g mb ob T rows came) : Tab w g mb ob (fun b => T b ∧ b < w.heap.size) rows came :=
  { h with
    tg := ⟨h.tg, lt_of_blk h.hg⟩
    tm := ⟨h.tm, let ⟨_, _, h1, _⟩ := h.hm; lt_of_blk h1⟩
    tb := ⟨h.tb, let ⟨_, _, h1, _⟩ := h.ho; lt_of_blk h1⟩
    good := fun r hr => { h.good r hr with
      fk := Kd.F_mono (Kd.F_bound (h.good r hr).fk) (fun k hk => ⟨⟨hk.1.1, hk.2⟩, hk.1.2⟩)
      fv := Kd.F_mono (Kd.F_bound (h.good r hr).fv) (fun k hk => ⟨⟨hk.1.1, hk.2⟩, hk.1.2⟩) } }
theorem alloc27 (w : World) : (Instr.alloc 27 true (.tuple #[])).run Try.prog w = .ok (.pointer (some ⟨w.heap.size, 0, none⟩)) (w.alloc (.cells #[.int .u8 0, .int .i64 0, .string ⟨#[]⟩, .slice none 0 0, .int .i64 0] 27)) := by kernel_rfl

/-- what holds at the head of each round of the first loop -/
structure Head (K V : List S27) (w0 : World) (g mb ob : Nat) (i : Nat) (v6 : Value) (es : List El) (rows : List Row) (came : Nat) (T : Nat → Prop) (w : World) : Prop where
  met : w.ownsRow w0.heap.size 27 5 v6 es.length (es.flatMap El.cells)
  els : ∀ e ∈ es, e.Good w (fun k => k < w0.heap.size)
  tab : Tab w g mb ob T rows came
  foot : ∀ b, T b → w0.heap.size ≤ b ∧ b < w.heap.size ∧ some b ≠ v6.ownBlock
  puts : Puts K V i rows came
  keys : es.map (·.x) = rows.map (·.k)
  grown : Ex (fun _ => False) w0 w

theorem met_lt {w : World} {base : Nat} {v : Value} {n : Nat} {xs : List Value} (h : w.ownsRow base 27 5 v n xs) {b : Nat} (hb : some b = v.ownBlock) : b < w.heap.size := by
  rcases h.2 with ⟨rfl, _⟩ | ⟨g, cap, cur, rfl, _, hg, _⟩
  · simp [Value.ownBlock] at hb
  · simp only [Value.ownBlock, Option.some.injEq] at hb
    subst hb
    exact lt_of_blk hg

section
variable {K V : List S27} {w0 w w1 : World} {g mb ob i came : Nat} {v6 : Value} {es : List El} {rows : List Row} {T : Nat → Prop}
/-- nothing that was there has been turned -/
theorem Head.ex0 (h : Head K V w0 g mb ob i v6 es rows came T w) (hx : Ex (fun _ => False) w w1) : Head K V w0 g mb ob i v6 es rows came T w1 :=
  ⟨mine_ex0 h.met hx, fun e he => (h.els e he).ex hx (fun _ _ h => h), h.tab.ex0 hx, fun b hb => ⟨(h.foot b hb).1, Nat.lt_of_lt_of_le (h.foot b hb).2.1 hx.size, (h.foot b hb).2.2⟩, h.puts, h.keys, h.grown.trans hx (fun _ h => h.elim)⟩
theorem Head.skip (h : Head K V w0 g mb ob i v6 es rows came T w) {k v : S27} (hk : K[i]? = some k) (hv : V[i]? = some v) (hn : (mayV k = false ∨ mayV v = false) ∨ ¬ KeyV k) : Head K V w0 g mb ob (i + 1) v6 es rows came T w :=
  { h with puts := h.puts.skip hk hv (row_may h.tab) hn }
/-- a put has turned the table -/
theorem Head.turned (h : Head K V w0 g mb ob i v6 es rows came T w) (hx : Ex (fun b => b = g ∨ b = mb ∨ b = ob) w w1) {rows' : List Row} {came' : Nat} (ht : Tab w1 g mb ob (fun b => T b ∨ w.heap.size ≤ b) rows' came') :
    w1.ownsRow w0.heap.size 27 5 v6 es.length (es.flatMap El.cells) ∧ (∀ e ∈ es, e.Good w1 (fun k => k < w0.heap.size)) ∧ Tab w1 g mb ob (fun b => (T b ∨ w.heap.size ≤ b) ∧ b < w1.heap.size) rows' came' ∧
      (∀ b, (T b ∨ w.heap.size ≤ b) ∧ b < w1.heap.size → w0.heap.size ≤ b ∧ b < w1.heap.size ∧ some b ≠ v6.ownBlock) ∧ Ex (fun _ => False) w0 w1 := by
  have hS : ∀ b, (b = g ∨ b = mb ∨ b = ob) → T b := by
    rintro b (rfl | rfl | rfl)
    · exact h.tab.tg
    · exact h.tab.tm
    · exact h.tab.tb
  refine ⟨mine_ex h.met hx (fun b hb => (h.foot b (hS b hb)).2.2), fun e he => (h.els e he).ex hx (fun b hb hs => by have := (h.foot b (hS b hs)).1; omega), ht.bound, fun b hb => ⟨?_, hb.2, ?_⟩, h.grown.trans hx (fun b hb => .inr (h.foot b (hS b hb)).1)⟩
  · rcases hb.1 with h1 | h1
    · exact (h.foot b h1).1
    · exact Nat.le_trans h.grown.size h1
  · rcases hb.1 with h1 | h1
    · exact (h.foot b h1).2.2
    · intro e
      have := met_lt h.met e
      omega
theorem Head.old (h : Head K V w0 g mb ob i v6 es rows came T w) (hx : Ex (fun b => b = g ∨ b = mb ∨ b = ob) w w1) {k v : S27} {m : Mk} {j : Nat} {r : Row} {B : Option Addr} {d : Nat} (hk : K[i]? = some k) (hv : V[i]? = some v) (hm : mayV k = true) (hmv : mayV v = true) (hmk : MarkOf k m) (hkey : m.keys = true) (hr : rows[j]? = some r) (hrm : r.m = m)
    (ht : Tab w1 g mb ob (fun b => T b ∨ w.heap.size ≤ b) (rows.set j (r.turn v B d)) came) : Head K V w0 g mb ob (i + 1) v6 es (rows.set j (r.turn v B d)) came (fun b => (T b ∨ w.heap.size ≤ b) ∧ b < w1.heap.size) w1 := by
  obtain ⟨h1, h2, h3, h4, h5⟩ := h.turned hx ht
  have hrk : r.k = k := (row_key h.tab hmk hm hkey (List.mem_of_getElem? hr)).1 hrm
  refine ⟨h1, h2, h3, h4, h.puts.old hk hv hr hrk hmv (fun j' r' hr' hne e => ?_), ?_, h5⟩
  · have hrm' : r'.m = m := (row_key h.tab hmk hm hkey (List.mem_of_getElem? hr')).2 e
    have hp := h.tab.marks
    rw [List.pairwise_iff_getElem] at hp
    obtain ⟨hj1, hj2⟩ := List.getElem?_eq_some_iff.1 hr
    obtain ⟨hk1, hk2⟩ := List.getElem?_eq_some_iff.1 hr'
    rcases Nat.lt_or_gt_of_ne hne with hlt | hgt
    · exact absurd (by rw [hj2, hk2, hrm, hrm']) (hp j' j hk1 hj1 hlt)
    · exact absurd (by rw [hj2, hk2, hrm, hrm']) (hp j j' hj1 hk1 hgt)
  · rw [h.keys]
    have hjl : j < rows.length := (List.getElem?_eq_some_iff.1 hr).1
    rw [List.map_set]
    apply List.ext_getElem?
    intro n
    rw [List.getElem?_set]
    split
    · rename_i e
      subst e
      simp only [List.length_map, hjl, if_true, List.getElem?_map, hr, Option.map_some]
      rfl
    · rfl
theorem Head.new (h : Head K V w0 g mb ob i v6 es rows came T w) (hx : Ex (fun b => b = g ∨ b = mb ∨ b = ob) w w1) {k v : S27} {m : Mk} {r : Row} (hk : K[i]? = some k) (hv : V[i]? = some v) (hm : mayV k = true) (hmv : mayV v = true) (hmk : MarkOf k m) (hkey : m.keys = true) (hnew : m ∉ rows.map (·.m)) (hrk : r.k = k) (hrv : r.v = v)
    (ht : Tab w1 g mb ob (fun b => T b ∨ w.heap.size ≤ b) (rows ++ [r]) (came + 1)) {w2 w3 : World} {v7 : Value} {e : El} (hx2 : Ex (fun _ => False) w1 w2) (he : e.x = k) (hg : e.Good w2 (fun k => k < w0.heap.size))
    (hown : w3.ownsRow w0.heap.size 27 5 v7 (es.length + 1) (es.flatMap El.cells ++ e.cells)) (hgr : w2.grownBy w3 v6.ownBlock) (hos : w2.os = w3.os ∧ w2.tape = w3.tape ∧ w2.output = w3.output) (hat : v7.ownBlock = v6.ownBlock ∨ ∃ b, v7.ownBlock = some b ∧ w2.heap.size ≤ b) :
    Head K V w0 g mb ob (i + 1) v7 (es ++ [e]) (rows ++ [r]) (came + 1) (fun b => (T b ∨ w.heap.size ≤ b) ∧ b < w1.heap.size) w3 := by
  obtain ⟨h1, h2, h3, h4, h5⟩ := h.turned hx ht
  have hx3 : Ex (fun b => some b = v6.ownBlock) w2 w3 := ⟨hos.1.symm, hos.2.1.symm, hos.2.2.symm, hgr.size, fun b hb hn => hgr.block b hb hn⟩
  have hbase : ∀ b, some b = v6.ownBlock → w0.heap.size ≤ b := fun b hb => mine_base h.met hb
  have hknew : k ∉ rows.map (·.k) := by
    intro hmem
    obtain ⟨r', hr', hrk'⟩ := List.mem_map.1 hmem
    exact hnew (List.mem_map.2 ⟨r', hr', (row_key h.tab hmk hm hkey hr').2 hrk'⟩)
  refine ⟨?_, ?_, ?_, ?_, h.puts.new hk hv hrk hrv hmv hknew, ?_, ?_⟩
  · simpa using hown
  · intro e' he'
    rcases List.mem_append.1 he' with h6 | h6
    · exact ((h2 e' h6).ex hx2 (fun _ _ h => h)).ex hx3 (fun b hb hs => by have := hbase b hs; omega)
    · have : e' = e := by simpa using h6
      subst this
      exact hg.ex hx3 (fun b hb hs => by have := hbase b hs; omega)
  · exact (h3.ex0 hx2).ex hx3 (fun b hb hs => (h4 b hb).2.2 hs)
  · intro b hb
    have h6 := h4 b hb
    refine ⟨h6.1, Nat.lt_of_lt_of_le (Nat.lt_of_lt_of_le h6.2.1 hx2.size) hx3.size, ?_⟩
    rcases hat with h7 | ⟨b', h7, h8⟩
    · rw [h7]; exact h6.2.2
    · rw [h7]
      intro e7
      injection e7 with e7
      have := hx2.size
      omega
  · rw [List.map_append, List.map_append, h.keys]
    simp [he, hrk]
  · exact (h5.trans hx2 (fun _ h => h.elim)).trans hx3 (fun b hb => .inr (hbase b hb))
end

theorem Head.lens {K V : List S27} {w0 w : World} {g mb ob i came : Nat} {v6 : Value} {es : List El} {rows : List Row} {T : Nat → Prop} (h : Head K V w0 g mb ob i v6 es rows came T w) {e : El} (he : e ∈ es) : Lens e.x := by
  have h1 : e.x ∈ rows.map (·.k) := by rw [← h.keys]; exact List.mem_map.2 ⟨e, he, rfl⟩
  obtain ⟨r, hr, hk⟩ := List.mem_map.1 h1
  have h2 := (may_iff _).1 (row_may h.tab r hr).1
  rw [hk] at h2
  exact (wf_may h2.2.2 h2.1).lens
theorem Head.few {K V : List S27} {w0 w : World} {g mb ob i came : Nat} {v6 : Value} {es : List El} {rows : List Row} {T : Nat → Prop} (h : Head K V w0 g mb ob i v6 es rows came T w) : es.length ≤ i := by
  have h1 := congrArg List.length h.keys
  have := h.puts.cnt
  simp at h1
  omega

/-- has one of them that value? -/
noncomputable def wasB (l : List El) (x : S27) : Bool := l.any (fun e => eqV e.x x)
theorem wasB_next {es : List El} {k : Nat} {e : El} (h : es[k]? = some e) (x : S27) : wasB (es.take (k + 1)) x = (wasB (es.take k) x || eqV e.x x) := by
  unfold wasB
  obtain ⟨hk, he⟩ := List.getElem?_eq_some_iff.1 h
  rw [List.take_succ_eq_append_getElem hk, List.any_append, he]
  simp
theorem wasB_all {es : List El} {x : S27} : wasB es x = true ↔ x ∈ es.map (·.x) := by
  unfold wasB
  simp only [List.any_eq_true, eqV_iff, List.mem_map]

end Go.Proofs.Ythkemcekcfccpaa.PBrandCompares

namespace Go.Proofs.Ythkemcekcfccpaa.GBrandCompares
open Go.RowKit
set_option linter.unusedVariables false
set_option linter.unusedSimpArgs false

section
variable {P : Program} {ops : Array Oper} {Q : Exit → Act → World → Prop}

def dstOf (ops : Array Oper) (i : Nat) : Option Tmp := (ops[i]?).bind (·.dst)

/-- the shape that the law asks: ahead of m each waits for smaller numbers alone; from m on each waits for all smaller ones; what is ahead writes slots of its own, that are there -/
def waits (o : Oper) (j : Nat) : Bool := o.after.any (fun e => Region.binds .any e && e.on == j)
def shapeB (ops : Array Oper) (m size : Nat) (lag : List Nat) : Bool :=
  decide (m ≤ ops.size) &&
  (List.range ops.size).all (fun i => match ops[i]? with
    | some o => o.after.all (fun e => !Region.binds .any e || decide (e.on < i)) && (if i < m then (match o.dst with | some d => decide (d < size) | none => true)
      else (List.range i).all (fun j => lag.contains j || waits o j))
    | none => true) &&
  (List.range m).all (fun i => (List.range i).all (fun j => match dstOf ops i, dstOf ops j with | some d, some e => d != e | _, _ => true)) &&
  Region.noSelect ops && lag.all (fun i => decide (i < m) && (List.range ops.size).all (fun j => i == j || match ops[i]?, ops[j]? with | some oi, some oj => waits oi j || waits oj i || oi.apart ops oj | _, _ => true))

structure Shape (ops : Array Oper) (m size : Nat) (lag : List Nat) : Prop where
  le : m ≤ ops.size
  front : ∀ i o, ops[i]? = some o → ∀ e ∈ o.after, Region.binds .any e = true → e.on < i
  bound : ∀ i d, i < m → dstOf ops i = some d → d < size
  tail : ∀ i o, m ≤ i → ops[i]? = some o → ∀ j, j < i → j ∈ lag ∨ ∃ e ∈ o.after, Region.binds .any e = true ∧ e.on = j
  apart : ∀ i j d, i < m → j < m → i ≠ j → dstOf ops i = some d → dstOf ops j ≠ some d
  nosel : Region.noSelect ops = true
  lagm : ∀ i, i ∈ lag → i < m
  lagf : ∀ i, i ∈ lag → ∀ oi, ops[i]? = some oi → ∀ j oj, ops[j]? = some oj → j ≠ i → waits oi j = true ∨ waits oj i = true ∨ oi.apart ops oj = true

theorem waits_spec {o : Oper} {j : Nat} (h : waits o j = true) : ∃ e ∈ o.after, Region.binds .any e = true ∧ e.on = j := by
  obtain ⟨e, he, h4⟩ := Array.any_eq_true'.1 h
  simp only [Bool.and_eq_true, beq_iff_eq] at h4
  exact ⟨e, he, h4.1, h4.2⟩

theorem shape_of {m size : Nat} {lag : List Nat} (h : shapeB ops m size lag = true) : Shape ops m size lag := by
  simp only [shapeB, Bool.and_eq_true, decide_eq_true_eq, List.all_eq_true, List.mem_range] at h
  obtain ⟨⟨⟨⟨h1, h2⟩, h3⟩, h4⟩, h5⟩ := h
  refine ⟨h1, ?_, ?_, ?_, ?_, h4, fun i hi => (h5 i hi).1, ?_⟩
  · intro i o ho e he hb
    have hlt : i < ops.size := (Array.getElem?_eq_some_iff.1 ho).1
    have := h2 i hlt
    rw [ho] at this
    simp only [Bool.and_eq_true, Array.all_eq_true_iff_forall_mem] at this
    have := this.1 e he
    simpa [hb] using this
  · intro i d hi hd
    have hlt : i < ops.size := by omega
    have := h2 i hlt
    rw [dstOf] at hd
    rw [Array.getElem?_eq_getElem hlt] at this hd
    simp only [hi, if_true, Bool.and_eq_true] at this
    have h4 := this.2
    simp only [Option.bind_some] at hd
    rw [hd] at h4
    simpa using h4
  · intro i o hi ho j hj
    have hlt : i < ops.size := (Array.getElem?_eq_some_iff.1 ho).1
    have := h2 i hlt
    rw [ho] at this
    simp only [if_neg (show ¬ i < m by omega), Bool.and_eq_true, List.all_eq_true, List.mem_range] at this
    have h6 := this.2 j hj
    simp only [Bool.or_eq_true, List.contains_iff_mem] at h6
    rcases h6 with h6 | h6
    · exact .inl h6
    · exact .inr (waits_spec h6)
  · have key : ∀ i j d, i < m → j < i → dstOf ops i = some d → dstOf ops j ≠ some d := by
      intro i j d hi hj hd he
      have := h3 i hi j hj
      rw [hd, he] at this
      simp at this
    intro i j d hi hj hne hd he
    rcases Nat.lt_or_gt_of_ne hne with h | h
    · exact key j i d hj h he hd
    · exact key i j d hi h hd he
  · intro i hi oi hoi j oj hoj hne
    have hlt : j < ops.size := (Array.getElem?_eq_some_iff.1 hoj).1
    have h6 := (h5 i hi).2 j hlt
    rw [hoi, hoj] at h6
    simp only [Bool.or_eq_true, beq_iff_eq] at h6
    rcases h6 with h6 | (h6 | h6) | h6
    · exact absurd h6.symm hne
    · exact .inl h6
    · exact .inr (.inl h6)
    · exact .inr (.inr h6)

/-- what is told across two operations (p, q; the value of q): has p come up, has q, q's slot, the world -/
structure Both where
  p : Nat
  q : Nat
  J : Bool → Bool → Value → World → Prop

/-- what is known when some operations have come up -/
structure Come (ops : Array Oper) (base : Array Value) (ds : List Deferred) (m : Nat) (b : Both) (S : Nat → Prop) (spec : Nat → Value → World → Prop) (W : World) (l : Array Bool) (a : Act) (w : World) : Prop where
  defers : a.defers = ds
  size : a.tmps.size = base.size
  grown : Ex S W w
  val : ∀ i, i < m → l.getD i false = true → ∃ x, spec i x w ∧ ∀ d, dstOf ops i = some d → a.tmps.getD d undef = x
  old : ∀ t, (∀ i, i < m → l.getD i false = true → dstOf ops i ≠ some t) → a.tmps.getD t undef = base.getD t undef
  inv : b.J (l.getD b.p false) (l.getD b.q false) (match dstOf ops b.q with | some d => a.tmps.getD d undef | none => undef) w

/-- one operation: what it does, whatever has come up beside what it waits for. 'ρ': the operands' values -/
def StepOk (P : Program) (ops : Array Oper) (base : Array Value) (m : Nat) (S : Nat → Prop) (Sf : Nat → Nat → Prop) (spec : Nat → Value → World → Prop) (W : World) (i : Nat) : Prop :=
  ∀ (o : Oper), ops[i]? = some o → ∀ (ρ : Operand → Value) (yl : Nat → Option Bool) (w : World), Ex S W w →
    (∀ v, ρ (.const v) = v) → (∀ f, ρ (.func f) = .func (.func f) #[] #[]) → (∀ g, ρ (.global g) = .pointer (some ⟨g, 0, none⟩)) →
    (∀ j, o.after.any (fun e => Region.binds .any e && e.on == j) = true → ∃ x, spec j x w ∧ (∀ d, dstOf ops j = some d → ρ (.tmp d) = x) ∧ ((dstOf ops j).isSome = true → yl j = match x with | .bool b => some b | _ => none)) →
    (∀ t, (List.range m).all (fun i => dstOf ops i != some t) = true → ρ (.tmp t) = base.getD t undef) →
    if Region.wanted o yl = true then
      (∃ x w', (execOp ρ o).run P w = .ok (.value x) w' ∧ Ex (Sf i) w w' ∧ spec i x w') ∨
      (∃ f args, (execOp ρ o).run P w = .ok (.enter f args) w ∧ Calls P f args w fun e w' => ∃ x, e = .returned x ∧ Ex (Sf i) w w' ∧ spec i x w')
    else spec i undef w

/-- .. with what is told across two operations -/
def StepOkJ (P : Program) (ops : Array Oper) (base : Array Value) (m : Nat) (b : Both) (S : Nat → Prop) (Sf : Nat → Nat → Prop) (spec : Nat → Value → World → Prop) (W : World) (i : Nat) : Prop :=
  ∀ (o : Oper), ops[i]? = some o → ∀ (ρ : Operand → Value) (yl : Nat → Option Bool) (w : World), Ex S W w →
    (∀ v, ρ (.const v) = v) → (∀ f, ρ (.func f) = .func (.func f) #[] #[]) → (∀ g, ρ (.global g) = .pointer (some ⟨g, 0, none⟩)) →
    (∀ j, o.after.any (fun e => Region.binds .any e && e.on == j) = true → ∃ x, spec j x w ∧ (∀ d, dstOf ops j = some d → ρ (.tmp d) = x) ∧ ((dstOf ops j).isSome = true → yl j = match x with | .bool b => some b | _ => none)) →
    (∀ t, (List.range m).all (fun i => dstOf ops i != some t) = true → ρ (.tmp t) = base.getD t undef) →
    ∀ (bp bq : Bool) (jv : Value), b.J bp bq jv w → (i = b.p → bp = false) → (i = b.q → bq = false) →
    if Region.wanted o yl = true then
      (∃ x w', (execOp ρ o).run P w = .ok (.value x) w' ∧ Ex (Sf i) w w' ∧ spec i x w' ∧ b.J (bp || decide (i = b.p)) (bq || decide (i = b.q)) (if i = b.q ∧ (dstOf ops i).isSome then x else jv) w') ∨
      (∃ f args, (execOp ρ o).run P w = .ok (.enter f args) w ∧ Calls P f args w fun e w' => ∃ x, e = .returned x ∧ Ex (Sf i) w w' ∧ spec i x w' ∧ b.J (bp || decide (i = b.p)) (bq || decide (i = b.q)) (if i = b.q ∧ (dstOf ops i).isSome then x else jv) w')
    else spec i undef w ∧ b.J (bp || decide (i = b.p)) (bq || decide (i = b.q)) (if i = b.q ∧ (dstOf ops i).isSome then undef else jv) w

/-- .. and one that reads no memory: it yields whatever the world -/
def PureOk (P : Program) (ops : Array Oper) (base : Array Value) (m : Nat) (S : Nat → Prop) (spec : Nat → Value → World → Prop) (W : World) (i : Nat) : Prop :=
  ∀ (o : Oper), ops[i]? = some o → ∀ (ρ : Operand → Value) (yl : Nat → Option Bool) (w : World), Ex S W w →
    (∀ v, ρ (.const v) = v) → (∀ f, ρ (.func f) = .func (.func f) #[] #[]) → (∀ g, ρ (.global g) = .pointer (some ⟨g, 0, none⟩)) →
    (∀ j, o.after.any (fun e => Region.binds .any e && e.on == j) = true → ∃ x, spec j x w ∧ (∀ d, dstOf ops j = some d → ρ (.tmp d) = x) ∧ ((dstOf ops j).isSome = true → yl j = match x with | .bool b => some b | _ => none)) →
    (∀ t, (List.range m).all (fun i => dstOf ops i != some t) = true → ρ (.tmp t) = base.getD t undef) →
    ∃ x, ((Region.wanted o yl = true ∧ ∀ w', (execOp ρ o).run P w' = .ok (.value x) w') ∨ (Region.wanted o yl = false ∧ x = undef)) ∧ spec i x w

theorem getD_put {a : Act} {d t : Tmp} {x : Value} (h : d < a.tmps.size) : (a.put (some d) x).tmps.getD t undef = if t = d then x else a.tmps.getD t undef := by
  simp only [Act.put, Array.getD_eq_getD_getElem?, Array.getElem?_setIfInBounds]
  by_cases e : d = t
  · subst e; simp [h]
  · rw [if_neg e, if_neg (Ne.symm e)]

theorem Come.step {lag : List Nat} {b : Both} {base : Array Value} {ds : List Deferred} {m : Nat} {spec : Nat → Value → World → Prop} {W : World} {l : Array Bool} {a : Act} {w w' : World} {i : Nat} {x : Value}
    (sh : Shape ops m base.size lag) {S S' : Nat → Prop} (hS : ∀ b, S' b → S b) (hst : ∀ j x, j ≠ i → spec j x w → spec j x w') (h : Come ops base ds m b S spec W l a w) (hi : i < m) (hl : i < l.size) (hun : l.getD i true = false) (hqm : b.q < m)
    (hx : Ex S' w w') (hs : spec i x w') (hJ : b.J (l.getD b.p false || decide (i = b.p)) (l.getD b.q false || decide (i = b.q)) (if i = b.q ∧ (dstOf ops i).isSome then x else (match dstOf ops b.q with | some d => a.tmps.getD d undef | none => undef)) w') : Come ops base ds m b S spec W (l.setIfInBounds i true) (a.put (dstOf ops i) x) w' := by
  have hset : ∀ j, (l.setIfInBounds i true).getD j false = if j = i then true else l.getD j false := by
    intro j
    simp only [Array.getD_eq_getD_getElem?, Array.getElem?_setIfInBounds]
    by_cases e : i = j
    · subst e; simp [hl]
    · rw [if_neg e, if_neg (Ne.symm e)]
  refine ⟨?_, ?_, h.grown.trans hx (fun b hb => .inl (hS b hb)), ?_, ?_, ?_⟩
  · cases dstOf ops i <;> exact h.defers
  · cases dstOf ops i with
    | none => exact h.size
    | some d => simp [Act.put, h.size]
  · intro j hj hjl
    rw [hset] at hjl
    by_cases e : j = i
    · subst e
      refine ⟨x, hs, fun d hd => ?_⟩
      rw [hd, getD_put (by rw [h.size]; exact sh.bound j d hj hd), if_pos rfl]
    · rw [if_neg e] at hjl
      obtain ⟨y, hy, hyd⟩ := h.val j hj hjl
      refine ⟨y, hst _ _ e hy, fun d hd => ?_⟩
      cases hdi : dstOf ops i with
      | none => exact hyd d hd
      | some d' =>
        rw [getD_put (by rw [h.size]; exact sh.bound i d' hi hdi), if_neg ?_]
        · exact hyd d hd
        · intro e2
          subst e2
          exact sh.apart j i d hj hi e hd hdi
  · intro t ht
    have h1 : dstOf ops i ≠ some t := ht i hi (by rw [hset, if_pos rfl])
    have h2 := h.old t (fun j hj hjl => ht j hj (by rw [hset]; split <;> simp [hjl]))
    cases hdi : dstOf ops i with
    | none => exact h2
    | some d' =>
      rw [getD_put (by rw [h.size]; exact sh.bound i d' hi hdi), if_neg ?_]
      · exact h2
      · intro e; subst e; exact h1 hdi
  · have e1 : ∀ j, (l.setIfInBounds i true).getD j false = (l.getD j false || decide (i = j)) := by
      intro j
      rw [hset]
      by_cases e : j = i
      · subst e; simp
      · rw [if_neg e]; simp [Ne.symm e]
    rw [e1, e1]
    have e2 : (match dstOf ops b.q with | some d => (a.put (dstOf ops i) x).tmps.getD d undef | none => undef) = (if i = b.q ∧ (dstOf ops i).isSome then x else (match dstOf ops b.q with | some d => a.tmps.getD d undef | none => undef)) := by
      by_cases e : i = b.q
      · subst e
        cases hd : dstOf ops b.q with
        | none => simp
        | some d => simp only [Option.isSome_some, and_self, if_true]; rw [getD_put (by rw [h.size]; exact sh.bound b.q d hi hd), if_pos rfl]
      · rw [if_neg (fun h => e h.1)]
        cases hd : dstOf ops b.q with
        | none => rfl
        | some d =>
          cases hdi : dstOf ops i with
          | none => rfl
          | some d' =>
            simp only
            rw [getD_put (by rw [h.size]; exact sh.bound i d' hi hdi), if_neg (fun e3 : d = d' => sh.apart i b.q d' hi hqm e hdi (by rw [← e3]; exact hd))]
    rw [e2]
    exact hJ

/-- the row of operations from k on, all ahead having come up -/
theorem any_tail {lag : List Nat} {m size : Nat} (sh : Shape ops m size lag) : ∀ (r k : Nat) (l : Array Bool) (a : Act) (w : World), k + r = ops.size → m ≤ k → l.size = ops.size → (∀ j, j < k → l.getD j false = true) → (∀ j, k ≤ j → j < ops.size → l.getD j true = false) →
    wpList P ops Q (ops.toList.drop k) a w → wpAny P .any ops Q r l a w := by
  intro r
  induction r with
  | zero =>
    intro k l a w hk hm hl h1 h2 h
    refine ⟨?_, ?_⟩
    · by_cases hne : Region.ready .any ops l = []
      · exact hne
      · obtain ⟨j, hj⟩ := List.exists_mem_of_ne_nil _ hne
        obtain ⟨h3, o, ho, _⟩ := mem_ready.1 hj
        have hlt : j < ops.size := (Array.getElem?_eq_some_iff.1 ho).1
        have h4 := h1 j (by omega)
        simp [hl, hlt] at h3 h4
        rw [h3] at h4; simp at h4
    · rw [List.drop_eq_nil_of_le (by simp; omega)] at h
      exact h
  | succ r ih =>
    intro k l a w hk hm hl h1 h2 h
    have hlt : k < ops.size := by omega
    have hok : ops[k]? = some ops[k] := Array.getElem?_eq_getElem hlt
    have hready : ∀ i, i ∈ Region.ready .any ops l ↔ i = k := by
      intro i
      rw [mem_ready]
      constructor
      · rintro ⟨h3, o, ho, h4⟩
        have hil : i < ops.size := (Array.getElem?_eq_some_iff.1 ho).1
        by_cases hik : i < k
        · have h5 := h1 i hik
          simp [hl, hil] at h3 h5
          rw [h3] at h5; simp at h5
        · by_cases hne : i = k
          · exact hne
          · obtain ⟨e, he, hb, heq⟩ := (sh.tail i o (by omega) ho k (by omega)).resolve_left (fun hm' => by have := sh.lagm k hm'; omega)
            have h5 := h4 e he hb
            rw [heq] at h5
            have h6 := h2 k (Nat.le_refl _) hlt
            simp [hl, hlt] at h5 h6
            rw [h6] at h5; simp at h5
      · rintro rfl
        refine ⟨h2 _ (Nat.le_refl _) hlt, _, hok, fun e he hb => ?_⟩
        exact h1 _ (sh.front i _ hok e he hb)
    have hset : ∀ j, (l.setIfInBounds k true).getD j false = if j = k then true else l.getD j false := by
      intro j
      simp only [Array.getD_eq_getD_getElem?, Array.getElem?_setIfInBounds]
      by_cases e : k = j
      · subst e; simp [hl, hlt]
      · rw [if_neg e, if_neg (Ne.symm e)]
    have hset2 : ∀ j, j ≠ k → (l.setIfInBounds k true).getD j true = l.getD j true := by
      intro j e
      simp only [Array.getD_eq_getD_getElem?, Array.getElem?_setIfInBounds]
      rw [if_neg (Ne.symm e)]
    refine ⟨fun hn => ?_, fun i hi => ?_⟩
    · have := (hready k).2 rfl
      rw [hn] at this; simp at this
    · have hik := (hready i).1 hi
      subst hik
      have h' : wpOp P ops Q i (wpList P ops Q (ops.toList.drop (i + 1))) a w := by
        rw [List.drop_eq_getElem_cons (by simpa using hlt)] at h
        unfold wpOp
        rw [hok]
        simpa [wpList] using h
      refine wpOp_mono (fun a' w' hK => ?_) h'
      refine ih (i + 1) _ a' w' (by omega) (by omega) (by simp [hl]) (fun j hj => ?_) (fun j hj hjn => ?_) hK
      · rw [hset]; split
        · rfl
        · exact h1 j (by omega)
      · rw [hset2 j (by omega)]
        exact h2 j (by omega) hjn

/-- how many have not come up -/
def left (l : Array Bool) : Nat := l.toList.count false
theorem left_set {l : Array Bool} {i : Nat} (hi : i < l.size) (hun : l.getD i true = false) : left (l.setIfInBounds i true) + 1 = left l := by
  unfold left
  have hg : l.toList[i]'(by simpa using hi) = false := by simpa [hi] using hun
  have hpos : 0 < l.toList.count false := List.count_pos_iff.2 (hg ▸ List.getElem_mem _)
  have hc := List.count_set (l := l.toList) (a := true) (b := false) (by simpa using hi)
  rw [hg] at hc
  rw [Array.toList_setIfInBounds, hc]
  simp only [beq_self_eq_true, if_true]
  rw [if_neg (by decide)]
  omega
theorem left_none {l : Array Bool} (h : left l = 0) {j : Nat} (hj : j < l.size) : l.getD j true = true := by
  unfold left at h
  rw [List.count_eq_zero] at h
  cases hg : l.getD j true with
  | true => rfl
  | false =>
    exfalso
    apply h
    have : l.toList[j]'(by simpa using hj) = false := by simpa [hj] using hg
    exact this ▸ List.getElem_mem _
theorem left_some {l : Array Bool} {j : Nat} (hj : j < l.size) (h : l.getD j true = false) : 0 < left l := by
  unfold left
  exact List.count_pos_iff.2 (by
    have : l.toList[j]'(by simpa using hj) = false := by simpa [hj] using h
    exact this ▸ List.getElem_mem _)

theorem any_front {lag : List Nat} {b : Both} {base : Array Value} {ds : List Deferred} {m : Nat} (hqm : b.q < m) (hlag : b.p ∉ lag ∧ b.q ∉ lag) {spec : Nat → Value → World → Prop} {W : World} (sh : Shape ops m base.size lag) {S : Nat → Prop} {Sf : Nat → Nat → Prop} (hS : ∀ i b, Sf i b → S b)
    (hst : ∀ i j x w w', j ≠ i → spec j x w → Ex (Sf i) w w' → spec j x w') (hstep : ∀ i, i < m → i ∉ lag → StepOkJ P ops base m b S Sf spec W i) (hpure : ∀ i, i ∈ lag → PureOk P ops base m S spec W i) (hQ : ∀ c a d v w, Q (.panic c) (Act.put a d v) w → Q (.panic c) a w)
    (hlast : ∀ (a : Act) (w : World), a.defers = ds → a.tmps.size = base.size → Ex S W w → (∀ i, i < m → ∃ x, spec i x w ∧ ∀ d, dstOf ops i = some d → a.tmps.getD d undef = x) → (∀ t, (∀ i, i < m → dstOf ops i ≠ some t) → a.tmps.getD t undef = base.getD t undef) → (b.p < m → b.J true true (match dstOf ops b.q with | some d => a.tmps.getD d undef | none => undef) w) → wpList P ops Q (ops.toList.drop m) a w) :
    ∀ (r : Nat) (l : Array Bool) (a : Act) (w : World), left l = r → l.size = ops.size → (∀ j, m ≤ j → j < ops.size → l.getD j true = false) → Come ops base ds m b S spec W l a w → wpAny P .any ops Q r l a w := by
  intro r
  induction r with
  | zero =>
    intro l a w hr hl htail hcome
    have hall : ∀ j, j < ops.size → l.getD j false = true := fun j hj => by
      have := left_none hr (j := j) (by omega)
      simp [hl, hj] at this ⊢
      exact this
    have hmn : ops.size ≤ m := by
      rcases Nat.lt_or_ge m ops.size with h | h
      · have h1 := htail m (Nat.le_refl _) h
        have h2 := left_none hr (j := m) (by omega)
        rw [h1] at h2; simp at h2
      · exact h
    refine any_tail sh 0 ops.size l a w (by omega) sh.le hl hall (fun j hj hjn => by omega) ?_
    have := hlast a w hcome.defers hcome.size hcome.grown (fun i hi => hcome.val i hi (hall i (by have := sh.le; omega))) (fun t ht => hcome.old t (fun i hi _ => ht i hi)) (fun hpm => by have h1 := hcome.inv; rw [hall b.p (by have := sh.le; omega), hall b.q (by have := sh.le; omega)] at h1; exact h1)
    rwa [show m = ops.size by have := sh.le; omega] at this
  | succ r ih =>
    intro l a w hr hl htail hcome
    by_cases hlagr : ∃ i, i ∈ lag ∧ i ∈ Region.ready .any ops l
    · obtain ⟨i, hil, hi⟩ := hlagr
      obtain ⟨hun, o, ho, hpre⟩ := mem_ready.1 hi
      have hlt : i < ops.size := (Array.getElem?_eq_some_iff.1 ho).1
      have him := sh.lagm i hil
      have hd : dstOf ops i = o.dst := by rw [dstOf, ho]; rfl
      have h := hpure i hil o ho a.eval (yielded ops a.tmps) w hcome.grown (fun _ => rfl) (fun _ => rfl) (fun _ => rfl) ?_ ?_
      · obtain ⟨x, hy, hs⟩ := h
        refine wpAny_first ho (Region.noSelect_spec sh.nosel) (fun c a w => hQ c a _ _ w) r l a w ?_ hi hy ?_
        · intro j oj hoj hne hjun hno
          rcases sh.lagf i hil o ho j oj hoj hne with h | h | h
          · obtain ⟨e, he, hb, rfl⟩ := waits_spec h
            have h1 := hpre e he hb
            have hjlt : e.on < ops.size := (Array.getElem?_eq_some_iff.1 hoj).1
            simp [hl, hjlt] at h1 hjun
            rw [h1] at hjun; simp at hjun
          · obtain ⟨e, he, hb, heq⟩ := waits_spec h
            exact absurd heq (hno e he hb)
          · exact h
        · refine ih _ _ _ ?_ (by simp [hl]) ?_ ?_
          · have := left_set (l := l) (i := i) (by omega) hun
            omega
          · intro j hj hjn
            simp only [Array.getD_eq_getD_getElem?, Array.getElem?_setIfInBounds]
            rw [if_neg (by omega)]
            have := htail j hj hjn
            simpa only [Array.getD_eq_getD_getElem?] using this
          · rw [← hd]
            exact hcome.step sh (S' := Sf i) (hS i) (fun _ _ _ h => h) him (by omega) hun hqm (Ex.refl _ _) hs (by
              have hp : i ≠ b.p := fun e => hlag.1 (e ▸ hil)
              have hq : i ≠ b.q := fun e => hlag.2 (e ▸ hil)
              simpa [hp, hq] using hcome.inv)
      · intro j hje
        obtain ⟨e, he, hje⟩ := Array.any_eq_true'.1 hje
        simp only [Bool.and_eq_true, beq_iff_eq] at hje
        obtain ⟨hb, rfl⟩ := hje
        have hj := sh.front i o ho e he hb
        obtain ⟨x, hx, hxd⟩ := hcome.val e.on (by omega) (hpre e he hb)
        refine ⟨x, hx, fun d hd => hxd d hd, fun hs => ?_⟩
        obtain ⟨d, hd⟩ := Option.isSome_iff_exists.1 hs
        have h1 := hxd d hd
        have hdlt : d < a.tmps.size := by rw [hcome.size]; exact sh.bound e.on d (by omega) hd
        unfold yielded
        rw [show (ops[e.on]?.bind fun x => x.dst) = some d from hd]
        simp only [Option.bind_some]
        rw [Array.getElem?_eq_getElem hdlt]
        have h2 : a.tmps[d] = x := by simpa [hdlt] using h1
        rw [h2]
        cases x <;> rfl
      · intro t ht
        simp only [List.all_eq_true, List.mem_range, bne_iff_ne] at ht
        exact hcome.old t (fun i hi _ => ht i hi)
    by_cases hall : ∀ j, j < m → l.getD j false = true
    · have hr' : m + (r + 1) = ops.size := by
        have hle := sh.le
        have hlist : l.toList = List.replicate m true ++ List.replicate (ops.size - m) false := by
          apply List.ext_getElem
          · simp [hl]; omega
          · intro j h1 h2
            have hj : j < ops.size := by simpa [hl] using h1
            rw [List.getElem_append]
            split
            · rename_i h
              have := hall j (by simpa using h)
              simpa [hl, hj] using this
            · rename_i h
              have := htail j (by simpa using h) hj
              simpa [hl, hj] using this
        unfold left at hr
        rw [hlist] at hr
        simp [List.count_replicate] at hr
        omega
      refine any_tail sh (r + 1) m l a w hr' (Nat.le_refl _) hl hall htail ?_
      exact hlast a w hcome.defers hcome.size hcome.grown (fun i hi => hcome.val i hi (hall i hi)) (fun t ht => hcome.old t (fun i hi _ => ht i hi)) (fun hpm => by have h1 := hcome.inv; rw [hall b.p hpm, hall b.q hqm] at h1; exact h1)
    · have hex : ∃ i, i < m ∧ l.getD i false = false ∧ ∀ j, j < i → l.getD j false = true := by
        have : ∃ i, i < m ∧ l.getD i false = false := by
          by_cases h : ∃ i, i < m ∧ l.getD i false = false
          · exact h
          · exfalso
            apply hall
            intro j hj
            cases hg : l.getD j false with
            | true => rfl
            | false => exact absurd ⟨j, hj, hg⟩ h
        obtain ⟨i, hi, hg⟩ := this
        induction i using Nat.strongRecOn with
        | _ i ih2 =>
          by_cases h : ∃ j, j < i ∧ l.getD j false = false
          · obtain ⟨j, hj, hg2⟩ := h
            exact ih2 j hj (by omega) hg2
          · refine ⟨i, hi, hg, fun j hj => ?_⟩
            cases hg2 : l.getD j false with
            | true => rfl
            | false => exact absurd ⟨j, hj, hg2⟩ h
      obtain ⟨i0, hi0, hg0, hlow⟩ := hex
      have hle := sh.le
      have hlt0 : i0 < ops.size := by omega
      have hun0 : l.getD i0 true = false := by simp [hl, hlt0] at hg0 ⊢; exact hg0
      refine ⟨fun hn => ?_, fun i hi => ?_⟩
      · have : i0 ∈ Region.ready .any ops l := mem_ready.2 ⟨hun0, _, Array.getElem?_eq_getElem hlt0, fun e he hb => hlow _ (sh.front i0 _ (Array.getElem?_eq_getElem hlt0) e he hb)⟩
        rw [hn] at this; simp at this
      · obtain ⟨hun, o, ho, hpre⟩ := mem_ready.1 hi
        have hlt : i < ops.size := (Array.getElem?_eq_some_iff.1 ho).1
        have him : i < m := by
          rcases Nat.lt_or_ge i m with h | h
          · exact h
          · rcases sh.tail i o h ho i0 (by omega) with hlg | ⟨e, he, hb, heq⟩
            · exact absurd ⟨i0, hlg, mem_ready.2 ⟨hun0, _, Array.getElem?_eq_getElem hlt0, fun e he hb => hlow _ (sh.front i0 _ (Array.getElem?_eq_getElem hlt0) e he hb)⟩⟩ hlagr
            · have := hpre e he hb
              rw [heq, hg0] at this; simp at this
        have hil : i ∉ lag := fun h => hlagr ⟨i, h, hi⟩
        have hd : dstOf ops i = o.dst := by rw [dstOf, ho]; rfl
        refine wpOp_step ho (fun K hK => ?_)
        have hnext : ∀ x w', Ex (Sf i) w w' → spec i x w' → b.J (l.getD b.p false || decide (i = b.p)) (l.getD b.q false || decide (i = b.q)) (if i = b.q ∧ (dstOf ops i).isSome then x else (match dstOf ops b.q with | some d => a.tmps.getD d undef | none => undef)) w' → K (a.put o.dst x) w' := by
          intro x w' hx hs hJ
          refine hK _ _ (ih _ _ _ ?_ (by simp [hl]) ?_ ?_)
          · have := left_set (l := l) (i := i) (by omega) hun
            omega
          · intro j hj hjn
            simp only [Array.getD_eq_getD_getElem?, Array.getElem?_setIfInBounds]
            rw [if_neg (by omega)]
            have := htail j hj hjn
            simpa only [Array.getD_eq_getD_getElem?] using this
          · rw [← hd]
            exact hcome.step sh (hS i) (fun j x hj h => hst i j x w w' hj h hx) him (by omega) hun hqm hx hs hJ
        have hun' : l.getD i false = false := by simp [hl, hlt] at hun ⊢; exact hun
        have h := hstep i him hil o ho a.eval (yielded ops a.tmps) w hcome.grown (fun _ => rfl) (fun _ => rfl) (fun _ => rfl) ?_ ?_ _ _ _ hcome.inv (fun e => e ▸ hun') (fun e => e ▸ hun')
        · split at h
          · rename_i hw
            rw [if_pos hw]
            rcases h with ⟨x, w', hrun, hx, hs, hJ⟩ | ⟨f, args, hrun, hcall⟩
            · unfold Oper.wp
              rw [hrun]
              exact hnext x w' hx hs hJ
            · unfold Oper.wp
              rw [hrun]
              refine hcall.mono ?_
              rintro e w' ⟨x, rfl, hx, hs, hJ⟩
              exact hnext x w' hx hs hJ
          · rename_i hw
            rw [if_neg hw]
            exact hnext undef w (Ex.refl _ _) h.1 h.2
        · intro j hje
          obtain ⟨e, he, hje⟩ := Array.any_eq_true'.1 hje
          simp only [Bool.and_eq_true, beq_iff_eq] at hje
          obtain ⟨hb, rfl⟩ := hje
          have hj := sh.front i o ho e he hb
          obtain ⟨x, hx, hxd⟩ := hcome.val e.on (by omega) (hpre e he hb)
          refine ⟨x, hx, fun d hd => hxd d hd, fun hs => ?_⟩
          obtain ⟨d, hd⟩ := Option.isSome_iff_exists.1 hs
          have h1 := hxd d hd
          have hdlt : d < a.tmps.size := by rw [hcome.size]; exact sh.bound e.on d (by omega) hd
          unfold yielded
          rw [show (ops[e.on]?.bind fun x => x.dst) = some d from hd]
          simp only [Option.bind_some]
          rw [Array.getElem?_eq_getElem hdlt]
          have h2 : a.tmps[d] = x := by simpa [hdlt] using h1
          rw [h2]
          cases x <;> rfl
        · intro t ht
          simp only [List.all_eq_true, List.mem_range, bne_iff_ne] at ht
          exact hcome.old t (fun i hi _ => ht i hi)

/-- A REGION THAT DRAWS ITS ORDER, by what each of its operations yields. -/
theorem region_specs {id : Nat} {base : Array Value} {ds : List Deferred} {w : World} (m : Nat) (lag : List Nat) (spec : Nat → Value → World → Prop) (b : Both) (hqm : b.q < m) (hlag : b.p ∉ lag ∧ b.q ∉ lag) (hm : P.follows .mixedOrders = true) (sh : shapeB ops m base.size lag = true)
    (S : Nat → Prop) (Sf : Nat → Nat → Prop) (hS : ∀ i b, Sf i b → S b) (hst : ∀ i j x w w', j ≠ i → spec j x w → Ex (Sf i) w w' → spec j x w') (hstep : ∀ i, i < m → i ∉ lag → StepOkJ P ops base m b S Sf spec w.drew i) (hpure : ∀ i, i ∈ lag → PureOk P ops base m S spec w.drew i) (hJ0 : b.J false false (match dstOf ops b.q with | some d => base.getD d undef | none => undef) w.drew)
    (hlast : ∀ (a : Act) (w' : World), a.defers = ds → a.tmps.size = base.size → Ex S w.drew w' → (∀ i, i < m → ∃ x, spec i x w' ∧ ∀ d, dstOf ops i = some d → a.tmps.getD d undef = x) → (∀ t, (∀ i, i < m → dstOf ops i ≠ some t) → a.tmps.getD t undef = base.getD t undef) → (b.p < m → b.J true true (match dstOf ops b.q with | some d => a.tmps.getD d undef | none => undef) w') → ∀ K : Exit → Act → World → Prop, (∀ a w, Q .normal a w → K .normal a w) → wpList P ops K (ops.toList.drop m) a w') :
    (Code.region id ops true).wp P Q { tmps := base, defers := ds } w := by
  refine wp_region_noPanic (wp_region_any hm ?_)
  have hz : ∀ j (b : Bool), (Array.replicate ops.size false).getD j b = if j < ops.size then false else b := by
    intro j b
    simp only [Array.getD_eq_getD_getElem?, Array.getElem?_replicate]
    split <;> rfl
  refine any_front (Q := NoPanic Q) (W := w.drew) hqm hlag (shape_of sh) hS hst hstep hpure (fun _ _ _ _ _ h => h) (fun a w' h1 h2 h3 h4 h5 h6 => hlast a w' h1 h2 h3 h4 h5 h6 _ (fun _ _ h => h)) ops.size _ _ _ ?_ (by simp) (fun j _ hj => by rw [hz, if_pos hj]) ⟨rfl, rfl, Ex.refl _ _, fun i hi hl => ?_, fun _ _ => rfl, by rw [hz, hz]; simpa using hJ0⟩
  · simp [left, List.count_replicate]
  · rw [hz] at hl
    split at hl <;> simp at hl

/-- the slots as the operations leave them -/
def putSlots (ops : Array Oper) (base : Array Value) (xs : Nat → Value) : Nat → Array Value
  | 0 => base
  | i + 1 => match dstOf ops i with
    | some d => (putSlots ops base xs i).setIfInBounds d (xs i)
    | none => putSlots ops base xs i
theorem putSlots_size (ops : Array Oper) (base : Array Value) (xs : Nat → Value) : ∀ i, (putSlots ops base xs i).size = base.size
  | 0 => rfl
  | i + 1 => by
    simp only [putSlots]
    cases dstOf ops i with
    | none => exact putSlots_size ops base xs i
    | some d => simp [putSlots_size ops base xs i]
theorem putSlots_old {base : Array Value} {xs : Nat → Value} {t : Tmp} : ∀ i, (∀ j, j < i → dstOf ops j ≠ some t) → (putSlots ops base xs i).getD t undef = base.getD t undef
  | 0, _ => rfl
  | i + 1, h => by
    have ih := putSlots_old (base := base) (xs := xs) i (fun j hj => h j (by omega))
    simp only [putSlots]
    cases hd : dstOf ops i with
    | none => exact ih
    | some d =>
      have hne : d ≠ t := fun e => h i (by omega) (e ▸ hd)
      simp only [Array.getD_eq_getD_getElem?, Array.getElem?_setIfInBounds] at ih ⊢
      rw [if_neg hne]; exact ih
theorem putSlots_val {lag : List Nat} {m size : Nat} (sh : Shape ops m size lag) {base : Array Value} (hs : base.size = size) {xs : Nat → Value} : ∀ k, k ≤ m → ∀ i d, i < k → dstOf ops i = some d → (putSlots ops base xs k).getD d undef = xs i
  | 0, _, i, d, hi, _ => by omega
  | k + 1, hk, i, d, hi, hd => by
    simp only [putSlots]
    by_cases e : i = k
    · subst e
      rw [hd]
      have := sh.bound i d (by omega) hd
      simp [Array.getElem?_setIfInBounds, putSlots_size, hs, this]
    · have ih := putSlots_val sh hs (xs := xs) k (by omega) i d (by omega) hd
      cases hdk : dstOf ops k with
      | none => exact ih
      | some d' =>
        have hne : d' ≠ d := fun e2 => sh.apart i k d (by omega) (by omega) e hd (e2 ▸ hdk)
        simp only [Array.getD_eq_getD_getElem?, Array.getElem?_setIfInBounds] at ih ⊢
        rw [if_neg hne]; exact ih

/-- .. with the slots written out -/
theorem region_byJ {id : Nat} {base : Array Value} {ds : List Deferred} {w : World} (m : Nat) (lag : List Nat) (spec : Nat → Value → World → Prop) (b : Both) (hqm : b.q < m) (hlag : b.p ∉ lag ∧ b.q ∉ lag) (hm : P.follows .mixedOrders = true) (sh : shapeB ops m base.size lag = true)
    (S : Nat → Prop) (Sf : Nat → Nat → Prop) (hS : ∀ i b, Sf i b → S b) (hst : ∀ i j x w w', j ≠ i → spec j x w → Ex (Sf i) w w' → spec j x w') (hstep : ∀ i, i < m → i ∉ lag → StepOkJ P ops base m b S Sf spec w.drew i) (hpure : ∀ i, i ∈ lag → PureOk P ops base m S spec w.drew i) (hJ0 : b.J false false (match dstOf ops b.q with | some d => base.getD d undef | none => undef) w.drew)
    (hlast : ∀ (xs : Nat → Value) (w' : World), Ex S w w' → (∀ i, i < m → spec i (xs i) w') → (b.p < m → b.J true true (if (dstOf ops b.q).isSome then xs b.q else undef) w') → ∀ K : Exit → Act → World → Prop, (∀ a w, Q .normal a w → K .normal a w) → wpList P ops K (ops.toList.drop m) { tmps := putSlots ops base xs m, defers := ds } w') :
    (Code.region id ops true).wp P Q { tmps := base, defers := ds } w := by
  have sh' := shape_of sh
  refine region_specs m lag spec b hqm hlag hm sh S Sf hS hst hstep hpure hJ0 (fun a w' hd hs hx hv ho hJ K hK => ?_)
  have hxs : ∃ xs : Nat → Value, ∀ i, i < m → spec i (xs i) w' ∧ ∀ d, dstOf ops i = some d → a.tmps.getD d undef = xs i := by
    refine ⟨fun i => if h : i < m then (hv i h).choose else undef, fun i hi => ?_⟩
    simp only [dif_pos hi]
    exact (hv i hi).choose_spec
  obtain ⟨xs, hxs⟩ := hxs
  have ha : a = { tmps := putSlots ops base xs m, defers := ds } := by
    obtain ⟨tm, df⟩ := a
    simp only at hd hs
    subst hd
    congr 1
    apply Array.ext
    · rw [hs, putSlots_size]
    · intro t h1 h2
      have key : tm.getD t undef = (putSlots ops base xs m).getD t undef := by
        by_cases h : ∃ i, i < m ∧ dstOf ops i = some t
        · obtain ⟨i, hi, hdi⟩ := h
          rw [putSlots_val sh' rfl m (Nat.le_refl _) i t hi hdi]
          exact (hxs i hi).2 t hdi
        · rw [putSlots_old m (fun j hj e => h ⟨j, hj, e⟩)]
          exact ho t (fun i hi e => h ⟨i, hi, e⟩)
      simpa [h1, h2] using key
  rw [ha]
  exact hlast xs w' (((Ex.refl _ _).drew).trans hx (fun _ h => .inl h)) (fun i hi => (hxs i hi).1) (fun hp => by
    have h1 := hJ hp
    cases hdq : dstOf ops b.q with
    | none => simpa [hdq] using h1
    | some d =>
      rw [hdq] at h1
      simp only [Option.isSome_some, if_true]
      have h2 := putSlots_val sh' rfl (xs := xs) m (Nat.le_refl _) b.q d hqm hdq
      rw [ha] at h1
      simp only [h2] at h1
      exact h1) K hK

theorem region_byS {id : Nat} {base : Array Value} {ds : List Deferred} {w : World} (m : Nat) (lag : List Nat) (spec : Nat → Value → World → Prop) (hm0 : 0 < m) (hl0 : 0 ∉ lag) (hm : P.follows .mixedOrders = true) (sh : shapeB ops m base.size lag = true)
    (S : Nat → Prop) (Sf : Nat → Nat → Prop) (hS : ∀ i b, Sf i b → S b) (hst : ∀ i j x w w', j ≠ i → spec j x w → Ex (Sf i) w w' → spec j x w') (hstep : ∀ i, i < m → i ∉ lag → StepOk P ops base m S Sf spec w.drew i) (hpure : ∀ i, i ∈ lag → PureOk P ops base m S spec w.drew i)
    (hlast : ∀ (xs : Nat → Value) (w' : World), Ex S w w' → (∀ i, i < m → spec i (xs i) w') → ∀ K : Exit → Act → World → Prop, (∀ a w, Q .normal a w → K .normal a w) → wpList P ops K (ops.toList.drop m) { tmps := putSlots ops base xs m, defers := ds } w') :
    (Code.region id ops true).wp P Q { tmps := base, defers := ds } w := by
  refine region_byJ m lag spec ⟨0, 0, fun _ _ _ _ => True⟩ hm0 ⟨hl0, hl0⟩ hm sh S Sf hS hst (fun i hi hnl => ?_) hpure trivial (fun xs w' hx hs _ => hlast xs w' hx hs)
  intro o ho ρ yl w1 hx h1 h2 h3 h4 h5 bp bq jv _ _ _
  have h := hstep i hi hnl o ho ρ yl w1 hx h1 h2 h3 h4 h5
  split at h
  · rename_i hw
    rw [if_pos hw]
    rcases h with ⟨x, w', a, b, c⟩ | ⟨f, args, a, b⟩
    · exact .inl ⟨x, w', a, b, c, trivial⟩
    · refine .inr ⟨f, args, a, b.mono ?_⟩
      rintro e w' ⟨x, a, b, c⟩
      exact ⟨x, a, b, c, trivial⟩
  · rename_i hw
    rw [if_neg hw]
    exact ⟨h, trivial⟩

/-- .. where nothing that was there is turned -/
theorem region_by {id : Nat} {base : Array Value} {ds : List Deferred} {w : World} (m : Nat) (lag : List Nat) (spec : Nat → Value → World → Prop) (hm0 : 0 < m) (hl0 : 0 ∉ lag) (hm : P.follows .mixedOrders = true) (sh : shapeB ops m base.size lag = true)
    (hst : ∀ i x w w', spec i x w → Ex (fun _ => False) w w' → spec i x w') (hstep : ∀ i, i < m → i ∉ lag → StepOk P ops base m (fun _ => False) (fun _ _ => False) spec w.drew i) (hpure : ∀ i, i ∈ lag → PureOk P ops base m (fun _ => False) spec w.drew i)
    (hlast : ∀ (xs : Nat → Value) (w' : World), Ex (fun _ => False) w w' → (∀ i, i < m → spec i (xs i) w') → ∀ K : Exit → Act → World → Prop, (∀ a w, Q .normal a w → K .normal a w) → wpList P ops K (ops.toList.drop m) { tmps := putSlots ops base xs m, defers := ds } w') :
    (Code.region id ops true).wp P Q { tmps := base, defers := ds } w :=
  region_byS m lag spec hm0 hl0 hm sh (fun _ => False) (fun _ _ => False) (fun _ _ h => h) (fun i j x w w' _ h hx => hst j x w w' h hx) hstep hpure hlast

/-- what is told of an operation's value, from a list -/
def specL (L : List (Value → World → Prop)) (i : Nat) (x : Value) (w : World) : Prop := (L.getD i (fun _ _ => True)) x w
def Stab (p : Value → World → Prop) : Prop := ∀ x w w', p x w → Ex (fun _ => False) w w' → p x w'
theorem stab_all {L : List (Value → World → Prop)} (h : ∀ p ∈ L, Stab p) : ∀ i x w w', specL L i x w → Ex (fun _ => False) w w' → specL L i x w' := by
  intro i x w w' hs hx
  unfold specL at hs ⊢
  rw [List.getD_eq_getElem?_getD] at hs ⊢
  by_cases hi : i < L.length
  · rw [List.getElem?_eq_getElem hi] at hs ⊢
    exact h _ (List.getElem_mem hi) _ _ _ hs hx
  · rw [List.getElem?_eq_none (by omega)]; trivial
theorem stab_nil : ∀ p ∈ ([] : List (Value → World → Prop)), Stab p := by simp
theorem stab_cons {p : Value → World → Prop} {L : List (Value → World → Prop)} (h : Stab p) (k : ∀ q ∈ L, Stab q) : ∀ q ∈ p :: L, Stab q := by
  intro q hq
  rcases List.mem_cons.1 hq with rfl | hq
  · exact h
  · exact k q hq
/-- it is just this -/
def Is (v : Value) : Value → World → Prop := fun x _ => x = v
theorem stab_is (v : Value) : Stab (Is v) := fun _ _ _ h _ => h
/-- a new block that holds o -/
def At (lo : Nat) (o : Obj) : Value → World → Prop := fun x w => ∃ g, x = .pointer (some ⟨g, 0, none⟩) ∧ lo ≤ g ∧ w.heap[g]? = some o
theorem stab_at (lo : Nat) (o : Obj) : Stab (At lo o) := fun _ _ _ ⟨g, h1, h2, h3⟩ hx => ⟨g, h1, h2, hx.blk h3 (fun h => h)⟩

/-- the c-th operation alone turns what was there (S) -/
def only (c : Nat) (S : Nat → Prop) (i : Nat) (b : Nat) : Prop := i = c ∧ S b
theorem only_no {c i : Nat} {S : Nat → Prop} (h : i ≠ c) {w w' : World} (hx : Ex (only c S i) w w') : Ex (fun _ => False) w w' := hx.mono (fun _ hb => h hb.1)
theorem ex_only {c i : Nat} {S : Nat → Prop} {w w' : World} (hx : Ex (fun _ => False) w w') : Ex (only c S i) w w' := hx.mono (fun _ h => h.elim)
theorem ex_the {c : Nat} {S : Nat → Prop} {w w' : World} (hx : Ex S w w') : Ex (only c S c) w w' := hx.mono (fun _ h => ⟨rfl, h⟩)
def StabS (S : Nat → Prop) (p : Value → World → Prop) : Prop := ∀ x w w', p x w → Ex S w w' → p x w'
theorem stabS_is (S : Nat → Prop) (v : Value) : StabS S (Is v) := fun _ _ _ h _ => h
theorem stabS_at (S : Nat → Prop) (lo : Nat) (o : Obj) (h : ∀ b, S b → b < lo) : StabS S (At lo o) := fun _ _ _ ⟨g, h1, h2, h3⟩ hx => ⟨g, h1, h2, hx.blk h3 (fun hs => by have := h g hs; omega)⟩
theorem stabS_all {L : List (Value → World → Prop)} {S : Nat → Prop} (c : Nat) (h : ∀ p ∈ L, Stab p) (k : ∀ i p, i ≠ c → L[i]? = some p → StabS S p) : ∀ i j x w w', j ≠ i → specL L j x w → Ex (only c S i) w w' → specL L j x w' := by
  intro i j x w w' hne hs hx
  by_cases hi : i = c
  · subst hi
    unfold specL at hs ⊢
    rw [List.getD_eq_getElem?_getD] at hs ⊢
    cases hl : L[j]? with
    | none => trivial
    | some p =>
      rw [hl] at hs
      exact k j p hne hl _ _ _ hs (hx.mono (fun _ hb => hb.2))
  · exact stab_all h j x w w' hs (only_no hi hx)
theorem stabS_nil (S : Nat → Prop) (c n : Nat) : ∀ i p, i + n ≠ c → ([] : List (Value → World → Prop))[i]? = some p → StabS S p := by simp
theorem stabS_cons {S : Nat → Prop} {c n : Nat} {p : Value → World → Prop} {L : List (Value → World → Prop)} (h : n ≠ c → StabS S p) (k : ∀ i q, i + (n + 1) ≠ c → L[i]? = some q → StabS S q) : ∀ i q, i + n ≠ c → (p :: L)[i]? = some q → StabS S q := by
  intro i q hne hq
  cases i with
  | zero => simp at hq; subst hq; exact h (by omega)
  | succ i => exact k i q (by omega) (by simpa using hq)
theorem stabS_start {L : List (Value → World → Prop)} {S : Nat → Prop} {c : Nat} (h : ∀ i p, i + 0 ≠ c → L[i]? = some p → StabS S p) : ∀ i p, i ≠ c → L[i]? = some p → StabS S p := h
theorem wantL {c : Bool} {A B C : Prop} (h : c = true) (a : A) : if c = true then A ∨ B else C := by rw [if_pos h]; exact .inl a
theorem wantR {c : Bool} {A B C : Prop} (h : c = true) (a : B) : if c = true then A ∨ B else C := by rw [if_pos h]; exact .inr a
theorem unwant {c : Bool} {A B C : Prop} (h : c = false) (a : C) : if c = true then A ∨ B else C := by rw [h, if_neg (by decide)]; exact a
end
end Go.Proofs.Ythkemcekcfccpaa.GBrandCompares

namespace Go.Proofs.Ythkemcekcfccpaa.PBrandCompares
open Go.RowKit Go.Proofs.YthkemcekcfccpaaW.PrintWords Go.Proofs.YthkemcekcfccpaaW.PrintLast Go.Proofs.YthkemcekcfccpaaW.PrintMore
open Go.Proofs.Ythkemcekcfccpaa.GBrandCompares
set_option linter.unusedVariables false
set_option linter.unusedSimpArgs false

abbrev ZB : Obj := .cells #[.int .u8 0, .int .i64 0, .string ⟨#[]⟩, .slice none 0 0, .int .i64 0] 27 (0, 0)
def JP (W : World) (R : (Nat → Prop) → World → Prop) : Bool → Bool → Value → World → Prop
  | false, false, _, w => Ex (fun _ => False) W w
  | false, true, v, w => Ex (fun _ => False) W w ∧ ∃ g, v = .pointer (some ⟨g, 0, none⟩) ∧ W.heap.size ≤ g ∧ w.heap[g]? = some ZB
  | true, false, _, w => ∃ T2, R T2 w ∧ ∀ b, T2 b → b < w.heap.size
  | true, true, v, w => ∃ g T2, v = .pointer (some ⟨g, 0, none⟩) ∧ W.heap.size ≤ g ∧ w.heap[g]? = some ZB ∧ R T2 w ∧ (∀ b, T2 b → b < w.heap.size) ∧ ¬ T2 g
theorem JP.before {W : World} {R : (Nat → Prop) → World → Prop} {bq : Bool} {v : Value} {w : World} (h : JP W R false bq v w) : Ex (fun _ => False) W w := by
  cases bq
  · exact h
  · exact h.1
theorem JP.alloc {W : World} {R : (Nat → Prop) → World → Prop} {S : Nat → Prop} {bp : Bool} {v : Value} {w : World} (h : JP W R bp false v w) (hx : Ex S W w) (hR : ∀ T2 w w', R T2 w → Ex (fun _ => False) w w' → R T2 w') : JP W R bp true (.pointer (some ⟨w.heap.size, 0, none⟩)) (w.alloc ZB) := by
  cases bp
  · exact ⟨Ex.alloc h _, w.heap.size, rfl, hx.size, blk_new1 _ _⟩
  · obtain ⟨T2, hr, hT⟩ := h
    exact ⟨w.heap.size, T2, rfl, hx.size, blk_new1 _ _, hR _ _ _ hr ((Ex.refl _ _).alloc _), fun b hb => by have := hT b hb; simp; omega, fun hb => Nat.lt_irrefl _ (hT _ hb)⟩
theorem JP.call {W : World} {R : (Nat → Prop) → World → Prop} {S T : Nat → Prop} {bq : Bool} {v : Value} {w w' : World} (h : JP W R false bq v w) (hT : ∀ b, T b → b < W.heap.size) (hS : ∀ b, S b → b < W.heap.size) (hx : Ex S w w')
    (hr : R (fun b => (T b ∨ w.heap.size ≤ b) ∧ b < w'.heap.size) w') : JP W R true bq v w' := by
  cases bq
  · exact ⟨_, hr, fun b hb => hb.2⟩
  · obtain ⟨_, g, h1, h2, h3⟩ := h
    refine ⟨g, _, h1, h2, hx.blk h3 (fun hs => by have := hS g hs; omega), hr, fun b hb => hb.2, fun hb => ?_⟩
    rcases hb.1 with h4 | h4
    · have := hT g h4; omega
    · have := lt_of_blk h3; omega

/-- the table behind a put of something new; of something that was there -/
def RNew (kx vx : S27) (m : Mk) (g mb ob : Nat) (rows : List Row) (came lo : Nat) (T : Nat → Prop) (T2 : Nat → Prop) (w : World) : Prop := ∃ r : Row, r.m = m ∧ r.k = kx ∧ r.v = vx ∧ Tab w g mb ob T2 (rows ++ [r]) (came + 1) ∧ ∀ b, T2 b → T b ∨ lo ≤ b
def ROld (vx : S27) (j : Nat) (r : Row) (g mb ob : Nat) (rows : List Row) (came lo : Nat) (T : Nat → Prop) (T2 : Nat → Prop) (w : World) : Prop := ∃ B d, Tab w g mb ob T2 (rows.set j (r.turn vx B d)) came ∧ ∀ b, T2 b → T b ∨ lo ≤ b
theorem RNew.ex {kx vx : S27} {m : Mk} {g mb ob came lo : Nat} {rows : List Row} {T T2 S : Nat → Prop} {w w' : World} (h : RNew kx vx m g mb ob rows came lo T T2 w) (hx : Ex S w w') (hs : ∀ b, T2 b → ¬ S b) : RNew kx vx m g mb ob rows came lo T T2 w' :=
  let ⟨r, h1, h2, h3, h4, h5⟩ := h; ⟨r, h1, h2, h3, h4.ex hx hs, h5⟩
theorem ROld.ex {vx : S27} {j : Nat} {r : Row} {g mb ob came lo : Nat} {rows : List Row} {T T2 S : Nat → Prop} {w w' : World} (h : ROld vx j r g mb ob rows came lo T T2 w) (hx : Ex S w w') (hs : ∀ b, T2 b → ¬ S b) : ROld vx j r g mb ob rows came lo T T2 w' :=
  let ⟨B, d, h1, h2⟩ := h; ⟨B, d, h1.ex hx hs, h2⟩

/-- which one was put last under x -/
noncomputable def lastI (K V : List S27) (x : S27) : Nat → Int
  | 0 => -1
  | l + 1 => if eqV (rd_T27 K (l : Int)) x = true ∧ mayV (rd_T27 V (l : Int)) = true then (l : Int) else lastI K V x l
theorem last_of {K V : List S27} {x v : S27} {l0 : Nat} (hk : K[l0]? = some x) (hv : V[l0]? = some v) (hm : mayV v = true) : ∀ n, l0 < n → n ≤ K.length → n ≤ V.length → (∀ l' v', l0 < l' → l' < n → K[l']? = some x → V[l']? = some v' → mayV v' = false) → lastI K V x n = l0
  | 0, h, _, _, _ => by omega
  | n + 1, h, hK, hV, hlast => by
    have h1 := rd_get (xs := K) (i := n) (by omega)
    have h2 := rd_get (xs := V) (i := n) (by omega)
    unfold lastI
    by_cases e : l0 = n
    · subst e
      rw [hk] at h1; rw [hv] at h2
      rw [← Option.some.inj h1, ← Option.some.inj h2, if_pos ⟨eqV_iff.2 rfl, hm⟩]
    · rw [if_neg, last_of hk hv hm n (by omega) (by omega) (by omega) (fun l' v' a b c d => hlast l' v' a (by omega) c d)]
      rintro ⟨h3, h4⟩
      rw [eqV_iff.1 h3] at h1
      have := hlast n _ (by omega) (by omega) h1 h2
      rw [this] at h4; simp at h4

/-- Get of something that is there -/
theorem get_is (x : S27) (A : Option Addr) (c g mb ob : Nat) (T ok : Nat → Prop) (rows : List Row) (came : Nat) (w : World) (h : Tab w g mb ob T rows came) (hF : Kd.F k27 w ok A x.f3.length x.f3) {p : Nat} {r : Row} (hr : rows[p]? = some r) (hrk : r.k = x) : GET x A c g w (Got r.v true w) := by
  have hg := mem_row h hr
  subst hrk
  refine (get_calls r.k A c g mb ob T ok rows came w h hF).mono ?_
  rintro e w' (⟨h1, _⟩ | ⟨_, h1, _⟩ | ⟨_, m, h1, h2, ⟨h3, _⟩ | ⟨j, r', hj, hjm, hgot⟩⟩)
  · rw [hg.mayk] at h1; simp at h1
  · exact absurd ⟨r.m, hg.mark, hg.key.1⟩ h1
  · have e := (mark_one m r.k r.m h1 hg.mark).2 h2.1
    exact absurd (List.mem_map.2 ⟨r, List.mem_of_getElem? hr, e⟩) h3
  · have e := (mark_one m r.k r.m h1 hg.mark).2 h2.1
    have hjj : j = p := by
      have hp := h.marks
      rw [List.pairwise_iff_getElem] at hp
      obtain ⟨hj1, hj2⟩ := List.getElem?_eq_some_iff.1 hr
      obtain ⟨hk1, hk2⟩ := List.getElem?_eq_some_iff.1 hj
      rcases Nat.lt_trichotomy p j with hlt | heq | hgt
      · exact absurd (by rw [hj2, hk2, e, hjm]) (hp p j hj1 hk1 hlt)
      · exact heq.symm
      · exact absurd (by rw [hj2, hk2, e, hjm]) (hp j p hk1 hj1 hgt)
    subst hjj
    rw [hr] at hj
    cases hj
    exact hgot

end Go.Proofs.Ythkemcekcfccpaa.PBrandCompares
