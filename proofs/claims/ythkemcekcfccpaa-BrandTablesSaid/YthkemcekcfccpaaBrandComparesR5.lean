/- The row of the law BrandTables: whatever row of steps it is given, it answers true, and the row reads as before. No condition. -/
import Derived.Test.YthkemcekcfccpaaBrandComparesR5M3
import Derived.RegionTactic
import Derived.ChangeAlike
import Derived.Deep.CutRange
import Derived.Test.YthkemcekcfccpaaBrandComparesR5M1
import Derived.RowKitVeiled
import Derived.Test.YthkemcekcfccpaaBrandComparesR5M0
import Derived.Test.YthkemcekcfccpaaBrandComparesR5M2
import Derived.Test.YthkemcekcfccpaaRows
import Derived.WalkKit
import Derived.ProofKit
import Derived.OpenShut
import Derived.ShutString
import Derived.ChangeOld
import Derived.Below
import Derived.SizedLaws
import Derived.Carry
section
namespace Go.Proofs.Ythkemcekcfccpaa.PBrandCompares
open Go.RowKit Go.Shelf Go.Proofs.YthkemcekcfccpaaW.PrintWords Go.Proofs.YthkemcekcfccpaaW.PrintLast Go.Proofs.YthkemcekcfccpaaW.PrintMore
open Go.Proofs.Ythkemcekcfccpaa.GBrandCompares
set_option linter.unusedVariables false
set_option linter.unusedSimpArgs false
def Pair (w : World) (base : Nat) (ok S : Nat → Prop) (g h n : Nat) : Prop :=
  ∃ (mb ob : Nat) (T : Nat → Prop) (rows : List Row) (came : Nat) (u : Value) (l : List Pr), Tab w g mb ob T rows came ∧ RT w base ok h u l ∧ Rel rows l ∧ came ≤ n ∧ l.length ≤ n ∧ (∀ b, T b → S b ∧ b < w.heap.size ∧ base ≤ b) ∧ (S h ∧ base ≤ h ∧ ¬ T h) ∧ ∀ b, u.ownBlock = some b → S b ∧ b < w.heap.size ∧ ¬ T b
theorem pair_end {w w' : World} {base : Nat} {ok S T T' : Nat → Prop} {g h n mb ob came' : Nat} {rows' : List Row} {u u' : Value} {l' : List Pr} (hb : base ≤ w.heap.size) (hT : ∀ b, T b → S b ∧ b < w.heap.size ∧ base ≤ b) (hh : S h ∧ base ≤ h ∧ ¬ T h) (hhl : h < w.heap.size) (hu : ∀ b, u.ownBlock = some b → S b ∧ b < w.heap.size ∧ ¬ T b)
    (ht : Tab w' g mb ob T' rows' came') (hT' : ∀ b, T' b → (T b ∨ w.heap.size ≤ b) ∧ b < w'.heap.size) (hr : RT w' base ok h u' l') (hrel : Rel rows' l') (h1 : came' ≤ n + 1) (h2 : l'.length ≤ n + 1) (hu' : u'.ownBlock = u.ownBlock ∨ ∀ b, u'.ownBlock = some b → w.heap.size ≤ b ∧ ¬ T' b) (hsz : w.heap.size ≤ w'.heap.size) :
    Pair w' base ok (fun b => S b ∨ (w.heap.size ≤ b ∧ b < w'.heap.size)) g h (n + 1) := by
  refine ⟨mb, ob, T', rows', came', u', l', ht, hr, hrel, h1, h2, fun b hb' => ?_, ⟨.inl hh.1, hh.2.1, fun ht' => ?_⟩, fun b hb' => ?_⟩
  · obtain ⟨h3 | h3, h4⟩ := hT' b hb'
    · exact ⟨.inl (hT b h3).1, h4, (hT b h3).2.2⟩
    · exact ⟨.inr ⟨h3, h4⟩, h4, Nat.le_trans hb h3⟩
  · rcases (hT' h ht').1 with h3 | h3
    · exact hh.2.2 h3
    · omega
  · rcases hu' with h3 | h3
    · obtain ⟨h4, h5, h6⟩ := hu b (h3 ▸ hb')
      refine ⟨.inl h4, Nat.lt_of_lt_of_le h5 hsz, fun h7 => ?_⟩
      rcases (hT' b h7).1 with h8 | h8
      · exact h6 h8
      · omega
    · obtain ⟨h4, h5⟩ := h3 b hb'
      have h6 := mine_lt hr.own hb'.symm
      exact ⟨.inr ⟨h4, h6⟩, h6, h5⟩
theorem pair_same {w w' : World} {base : Nat} {ok S T : Nat → Prop} {g h n mb ob came : Nat} {rows : List Row} {u : Value} {l : List Pr} (hb : base ≤ w.heap.size) (hT : ∀ b, T b → S b ∧ b < w.heap.size ∧ base ≤ b) (hh : S h ∧ base ≤ h ∧ ¬ T h) (hhl : h < w.heap.size) (hu : ∀ b, u.ownBlock = some b → S b ∧ b < w.heap.size ∧ ¬ T b)
    (ht : Tab w' g mb ob T rows came) (hr : RT w' base ok h u l) (hrel : Rel rows l) (h1 : came ≤ n) (h2 : l.length ≤ n) (hsz : w.heap.size ≤ w'.heap.size) : Pair w' base ok (fun b => S b ∨ (w.heap.size ≤ b ∧ b < w'.heap.size)) g h (n + 1) :=
  pair_end hb hT hh hhl hu ht (fun b hb' => ⟨.inl hb', Nat.lt_of_lt_of_le (hT b hb').2.1 hsz⟩) hr hrel (by omega) (by omega) (.inl rfl) hsz
set_option maxHeartbeats 4000000 in
set_option maxRecDepth 100000 in
theorem step_calls {ok S : Nat → Prop} {base g h n : Nat} (how on leave : Int) (x y : S27) (A B : Option Addr) (c d : Nat) (w : World) (hP : Pair w base ok S g h n) (hn : n < 900000) (hb : base ≤ w.heap.size) (hok : ∀ b, ok b → b < base)
    (hc : x.f3.length ≤ c) (hd : y.f3.length ≤ d) (hF : Kd.F k27 w ok A x.f3.length x.f3) (hG : Kd.F k27 w ok B y.f3.length y.f3) (hwx : Wf x) (hwy : Wf y) :
    Calls Try.prog 22 #[.pointer (some ⟨g, 0, none⟩), .pointer (some ⟨h, 0, none⟩), .agg #[.int .i64 how, .int .i64 on, .int .i64 leave, .int .u8 x.f0, .int .i64 x.f1, .string x.f2, .slice A x.f3.length c, .int .i64 x.f4, .int .u8 y.f0, .int .i64 y.f1, .string y.f2, .slice B y.f3.length d, .int .i64 y.f4]] w fun e w' => e = .returned (.bool true) ∧ Ex S w w' ∧ Pair w' base ok (fun b => S b ∨ (w.heap.size ≤ b ∧ b < w'.heap.size)) g h (n + 1) := by
  obtain ⟨mb, ob, T, rows, came, u, l, ht, hr, hrel, hcame, hll, hT, hh, hu⟩ := hP
  have HT := Aside0.mk ht
  have HR := Aside0.mk hr
  have HREL := Aside0.mk hrel
  have HN := Aside0.mk (And.intro hcame (And.intro hll hn))
  have HTT := Aside0.mk hT
  have HH := Aside0.mk hh
  have HU := Aside0.mk hu
  have HOK := Aside0.mk (And.intro hb hok)
  have HXY := Aside0.mk (And.intro hc (And.intro hd (And.intro hwx hwy)))
  have HF := Aside0.mk (And.intro hF hG)
  clear ht hr hrel hcame hll hn hT hh hu hb hok hc hd hwx hwy hF hG
  go_enter Try.func22, Try.ntmps22
  go_wp2_with fail
  go_upto_region 1 with (fail)
  go_cut [7, 8] from 25 to 28 (fun s7 s8 wx => ∃ gk gv : Nat, s7 = .pointer (some ⟨gk, 0, none⟩) ∧ s8 = .pointer (some ⟨gv, 0, none⟩) ∧ Aside0 (gk ≠ gv ∧ w.heap.size < gk ∧ w.heap.size < gv) ∧ Aside0 (Ex (fun _ => False) w wx) ∧ Aside0 (wx.heap[w.heap.size]? = some (.cells #[.int .i64 how, .int .i64 on, .int .i64 leave, .int .u8 x.f0, .int .i64 x.f1, .string x.f2, .slice A x.f3.length c, .int .i64 x.f4, .int .u8 y.f0, .int .i64 y.f1, .string y.f2, .slice B y.f3.length d, .int .i64 y.f4] 58 (0, 0))) ∧ Aside0 (wx.heap[gk]? = some (.cells #[.int .u8 x.f0, .int .i64 x.f1, .string x.f2, .slice A x.f3.length c, .int .i64 x.f4] 27 (0, 0))) ∧ Aside0 (wx.heap[gv]? = some (.cells #[.int .u8 y.f0, .int .i64 y.f1, .string y.f2, .slice B y.f3.length d, .int .i64 y.f4] 27 (0, 0))))
  case first =>
    go_region
    all_goals (go_wp2_with fail; go_meet)
    · exact ⟨_, _, rfl, rfl, ⟨by omega, by omega, by omega⟩, ⟨((((Ex.refl _ w).alloc _).alloc _).alloc _).drew⟩, ⟨blk_alloc (blk_alloc (blk_new1 w _) _) _⟩, ⟨blk_alloc (blk_new2 w _ _) _⟩, ⟨blk_new3 w _ _ _⟩⟩
    · exact ⟨_, _, rfl, rfl, ⟨by omega, by omega, by omega⟩, ⟨((((Ex.refl _ w).alloc _).alloc _).alloc _).drew⟩, ⟨blk_alloc (blk_alloc (blk_new1 w _) _) _⟩, ⟨blk_new3 w _ _ _⟩, ⟨blk_alloc (blk_new2 w _ _) _⟩⟩
  case rest =>
    obtain ⟨gk, gv, rfl, rfl, HNE, HX1, HS1, HK1, HV1⟩ := hcut
    obtain ⟨W1, rfl⟩ : ∃ W1, W1 = wc := ⟨_, rfl⟩
    have kb := HK1.out
    have k0 := (blk_cell kb 0).trans rfl
    have k1 := (blk_cell kb 1).trans rfl
    have k2 := (blk_cell kb 2).trans rfl
    have k3 := (blk_cell kb 3).trans rfl
    have k4 := (blk_cell kb 4).trans rfl
    have kl := lt_of_blk kb
    go_wp2_with fail
    refine (refmay_calls x A c _ HXY.out.1 (Kd.F_now (ex_F HX1.out HF.out.1 (fun _ _ h => h))) HXY.out.2.2.1).mono ?_
    rintro e W1m ⟨rfl, hb2⟩
    have HXmW1 := Aside0.mk (HX1.out.then_below hb2)
    have HSmW1 := Aside0.mk ((Ex.of_below (S := fun _ => False) hb2).blk HS1.out (fun h => h))
    have HMmW1 := Aside0.mk ((Ex.of_below (S := fun _ => False) hb2).blk HK1.out (fun h => h))
    have HOmW1 := Aside0.mk ((Ex.of_below (S := fun _ => False) hb2).blk HV1.out (fun h => h))
    have HSZW1 := Aside0.mk hb2.size
    clear hb2
    clear kb kl k0 k1 k2 k3 k4
    go_upto_if 30 with (fail)
    go_cut [] from 30 to 32 (fun wx => ∃ (A2 : Option Addr) (c2 n1 n2 : Nat), Aside0 (Ex (fun b => b = gk) W1m wx) ∧ Aside0 (wx.heap[gk]? = some (.cells #[.int .u8 x.f0, .int .i64 x.f1, .string x.f2, .slice A2 x.f3.length c2, .int .i64 x.f4] 27 (0, 0))) ∧ Aside0 (x.f3.length ≤ c2 ∧ W1m.heap.size ≤ n1 ∧ n2 ≤ wx.heap.size) ∧ Aside0 (Kd.F k27 wx (fun b => ok b ∨ W1m.heap.size ≤ b) A2 x.f3.length x.f3) ∧ Aside0 (mayV x = true → Kd.R k27 27 wx n1 (fun b => n1 ≤ b ∧ b < n2) (.slice A2 x.f3.length c2) x.f3))
    case first =>
      cases hm : mayV x with
      | true =>
        have kb := HMmW1.out
        have k0 := (blk_cell kb 0).trans rfl
        have k1 := (blk_cell kb 1).trans rfl
        have k2 := (blk_cell kb 2).trans rfl
        have k3 := (blk_cell kb 3).trans rfl
        have k4 := (blk_cell kb 4).trans rfl
        have kl := lt_of_blk kb
        have HM := Aside0.mk hm
        clear hm
        go_wp2_with fail
        refine (lown_calls x A c _ ok HXY.out.1 (ex_F HXmW1.out HF.out.1 (fun _ _ h => h)) HM.out).mono ?_
        rintro e W3 ⟨v, rfl, A2, c2, rfl, hc2, hR, hx3⟩
        clear kb kl k0 k1 k2 k3 k4
        have kb := hx3.blk HMmW1.out (fun h => h)
        have k0 := (blk_cell kb 0).trans rfl
        have kf0 := blk_frozen kb 0
        have k1 := (blk_cell kb 1).trans rfl
        have kf1 := blk_frozen kb 1
        have k2 := (blk_cell kb 2).trans rfl
        have kf2 := blk_frozen kb 2
        have k3 := (blk_cell kb 3).trans rfl
        have kf3 := blk_frozen kb 3
        have k4 := (blk_cell kb 4).trans rfl
        have kf4 := blk_frozen kb 4
        have kl := lt_of_blk kb
        have HX3 := Aside0.mk hx3
        have HC2 := Aside0.mk hc2
        have HR2 := Aside0.mk (Kd.R_mono (ok' := fun b => W1m.heap.size ≤ b ∧ b < W3.heap.size) (Kd.R_bound hR) (fun k hk => ⟨hk.2.1, hk.2.2.1⟩))
        have HKB := Aside0.mk kb
        have HLT := Aside0.mk (lt_of_blk HMmW1.out)
        clear hx3 hc2 hR kb
        go_wp2_with fail
        go_meet
        have hxp := ex_put27 (g := gk) (Ex.refl (fun b => b = gk) W3) (.inl rfl) (.int .u8 x.f0) (.int .i64 x.f1) (.string x.f2) (.slice A2 x.f3.length c2) (.int .i64 x.f4)
        have hR5 := ex_R hxp HR2.out (fun b hb e => by have := hb.1; have := HLT.out; omega)
        exact ⟨A2, c2, W1m.heap.size, W3.heap.size, ⟨(HX3.out.mono (fun _ h => h.elim)).trans hxp (fun b hb => .inl hb)⟩, ⟨put27 HKB.out rfl _ _ _ _ _⟩, ⟨HC2.out, Nat.le_refl _, hxp.size⟩, ⟨Kd.F_mono (R_F hR5) (fun b hb => .inr hb.1)⟩, ⟨fun _ => hR5⟩⟩
      | false =>
        have HM := Aside0.mk hm
        clear hm
        go_wp2_with fail
        go_meet
        exact ⟨A, c, W1m.heap.size, W1m.heap.size, ⟨Ex.refl _ _⟩, ⟨HMmW1.out⟩, ⟨HXY.out.1, Nat.le_refl _, Nat.le_refl _⟩, ⟨Kd.F_mono (ex_F HXmW1.out HF.out.1 (fun _ _ h => h)) (fun b hb => .inl hb)⟩, ⟨fun h => by rw [HM.out] at h; cases h⟩⟩
    case rest =>
      obtain ⟨Ak, ck, n1, n2, HXk, HK3, HCk, HFk, HRk⟩ := hcut
      obtain ⟨W3, rfl⟩ : ∃ W3, W3 = wc := ⟨_, rfl⟩
      have HX3 := Aside0.mk (HXmW1.out.trans HXk.out (fun b hb => .inr (by have := HNE.out.2.1; omega)))
      have HS3 := Aside0.mk (HXk.out.blk HSmW1.out (by have := HNE.out.2.1; omega))
      have HV3 := Aside0.mk (HXk.out.blk HOmW1.out (fun e => HNE.out.1 e.symm))
      have HL3 := Aside0.mk (And.intro (lt_of_blk HMmW1.out) (lt_of_blk HOmW1.out))
      have HSK := Aside0.mk HXk.out.size
      clear HXmW1 HSmW1 HMmW1 HOmW1 HX1 HS1 HK1 HV1 HSZW1 HXk
      have kb := HV3.out
      have k0 := (blk_cell kb 0).trans rfl
      have k1 := (blk_cell kb 1).trans rfl
      have k2 := (blk_cell kb 2).trans rfl
      have k3 := (blk_cell kb 3).trans rfl
      have k4 := (blk_cell kb 4).trans rfl
      have kl := lt_of_blk kb
      go_wp2_with fail
      refine (refmay_calls y B d _ HXY.out.2.1 (Kd.F_now (ex_F HX3.out HF.out.2 (fun _ _ h => h))) HXY.out.2.2.2).mono ?_
      rintro e W3m ⟨rfl, hb2⟩
      have HXmW3 := Aside0.mk (HX3.out.then_below hb2)
      have HSmW3 := Aside0.mk ((Ex.of_below (S := fun _ => False) hb2).blk HS3.out (fun h => h))
      have HMmW3 := Aside0.mk ((Ex.of_below (S := fun _ => False) hb2).blk HV3.out (fun h => h))
      have HOmW3 := Aside0.mk ((Ex.of_below (S := fun _ => False) hb2).blk HK3.out (fun h => h))
      have HSZW3 := Aside0.mk hb2.size
      have HXM := Aside0.mk (Ex.of_below (S := fun _ => False) hb2)
      clear hb2
      clear kb kl k0 k1 k2 k3 k4
      go_upto_if 34 with (fail)
      go_cut [] from 34 to 36 (fun wx => ∃ (A2 : Option Addr) (c2 n1 n2 : Nat), Aside0 (Ex (fun b => b = gv) W3m wx) ∧ Aside0 (wx.heap[gv]? = some (.cells #[.int .u8 y.f0, .int .i64 y.f1, .string y.f2, .slice A2 y.f3.length c2, .int .i64 y.f4] 27 (0, 0))) ∧ Aside0 (y.f3.length ≤ c2 ∧ W3m.heap.size ≤ n1 ∧ n2 ≤ wx.heap.size) ∧ Aside0 (Kd.F k27 wx (fun b => ok b ∨ W3m.heap.size ≤ b) A2 y.f3.length y.f3) ∧ Aside0 (mayV y = true → Kd.R k27 27 wx n1 (fun b => n1 ≤ b ∧ b < n2) (.slice A2 y.f3.length c2) y.f3))
      case first =>
        cases hm : mayV y with
        | true =>
          have kb := HMmW3.out
          have k0 := (blk_cell kb 0).trans rfl
          have k1 := (blk_cell kb 1).trans rfl
          have k2 := (blk_cell kb 2).trans rfl
          have k3 := (blk_cell kb 3).trans rfl
          have k4 := (blk_cell kb 4).trans rfl
          have kl := lt_of_blk kb
          have HM := Aside0.mk hm
          clear hm
          go_wp2_with fail
          refine (lown_calls y B d _ ok HXY.out.2.1 (ex_F HXmW3.out HF.out.2 (fun _ _ h => h)) HM.out).mono ?_
          rintro e W3 ⟨v, rfl, A2, c2, rfl, hc2, hR, hx3⟩
          clear kb kl k0 k1 k2 k3 k4
          have kb := hx3.blk HMmW3.out (fun h => h)
          have k0 := (blk_cell kb 0).trans rfl
          have kf0 := blk_frozen kb 0
          have k1 := (blk_cell kb 1).trans rfl
          have kf1 := blk_frozen kb 1
          have k2 := (blk_cell kb 2).trans rfl
          have kf2 := blk_frozen kb 2
          have k3 := (blk_cell kb 3).trans rfl
          have kf3 := blk_frozen kb 3
          have k4 := (blk_cell kb 4).trans rfl
          have kf4 := blk_frozen kb 4
          have kl := lt_of_blk kb
          have HX3 := Aside0.mk hx3
          have HC2 := Aside0.mk hc2
          have HR2 := Aside0.mk (Kd.R_mono (ok' := fun b => W3m.heap.size ≤ b ∧ b < W3.heap.size) (Kd.R_bound hR) (fun k hk => ⟨hk.2.1, hk.2.2.1⟩))
          have HKB := Aside0.mk kb
          have HLT := Aside0.mk (lt_of_blk HMmW3.out)
          clear hx3 hc2 hR kb
          go_wp2_with fail
          go_meet
          have hxp := ex_put27 (g := gv) (Ex.refl (fun b => b = gv) W3) (.inl rfl) (.int .u8 y.f0) (.int .i64 y.f1) (.string y.f2) (.slice A2 y.f3.length c2) (.int .i64 y.f4)
          have hR5 := ex_R hxp HR2.out (fun b hb e => by have := hb.1; have := HLT.out; omega)
          exact ⟨A2, c2, W3m.heap.size, W3.heap.size, ⟨(HX3.out.mono (fun _ h => h.elim)).trans hxp (fun b hb => .inl hb)⟩, ⟨put27 HKB.out rfl _ _ _ _ _⟩, ⟨HC2.out, Nat.le_refl _, hxp.size⟩, ⟨Kd.F_mono (R_F hR5) (fun b hb => .inr hb.1)⟩, ⟨fun _ => hR5⟩⟩
        | false =>
          have HM := Aside0.mk hm
          clear hm
          go_wp2_with fail
          go_meet
          exact ⟨B, d, W3m.heap.size, W3m.heap.size, ⟨Ex.refl _ _⟩, ⟨HMmW3.out⟩, ⟨HXY.out.2.1, Nat.le_refl _, Nat.le_refl _⟩, ⟨Kd.F_mono (ex_F HXmW3.out HF.out.2 (fun _ _ h => h)) (fun b hb => .inl hb)⟩, ⟨fun h => by rw [HM.out] at h; cases h⟩⟩
      case rest =>
        obtain ⟨Av, cv, n3, n4, HXv, HV5, HCv, HFv, HRv⟩ := hcut
        obtain ⟨W5, rfl⟩ : ∃ W5, W5 = wc := ⟨_, rfl⟩
        have HLT := Aside0.mk (show w.heap.size < gk ∧ w.heap.size < gv ∧ gk < W1m.heap.size ∧ gv < W1m.heap.size ∧ W1m.heap.size ≤ n1 ∧ n2 ≤ n3 ∧ n3 ≤ n3 ∧ n4 ≤ W5.heap.size ∧ n2 ≤ W5.heap.size ∧ w.heap.size ≤ W5.heap.size ∧ W1m.heap.size ≤ n3 from by
          have h1 := HNE.out; have h2 := HL3.out; have h3 := HCk.out.2; have h4 := HCv.out.2; have h5 := HSZW3.out; have h6 := HXv.out.size; have h7 := HX3.out.size; have h8 := HSK.out
          refine ⟨h1.2.1, h1.2.2, h2.1, h2.2, h3.1, ?_, ?_, ?_, ?_, ?_, ?_⟩ <;> omega)
        have HX5 := Aside0.mk (HXmW3.out.trans HXv.out (fun b hb => .inr (by have := HLT.out; omega)))
        have HS5 := Aside0.mk (HXv.out.blk HSmW3.out (by have := HLT.out; omega))
        have HK5 := Aside0.mk (HXv.out.blk HOmW3.out (fun e => HNE.out.1 e))
        have HXW := Aside0.mk (show Ex (fun b => b = gv) W3 W5 from (HXM.out.mono (fun _ h => h.elim)).trans HXv.out (fun b hb => .inl hb))
        have HFk5 := Aside0.mk (ex_F HXW.out HFk.out (fun b hb e => by have h1 := HLT.out; have h2 := HOK.out; rcases hb with hb | hb; have := h2.2 b hb; omega; omega))
        have HFv5 := Aside0.mk (Kd.F_mono HFv.out (ok' := fun b => ok b ∨ W1m.heap.size ≤ b) (fun b hb => hb.imp id (fun hb => by have := HSK.out; have := HSZW3.out; omega)))
        have HRk5 := Aside0.mk (fun hm : mayV x = true => ex_R HXW.out (HRk.out hm) (fun b hb e => by have h1 := HLT.out; have := hb.1; omega))
        have HOKT := Aside0.mk (show ∀ b, (ok b ∨ W1m.heap.size ≤ b) → ¬ T b from fun b hb ht => by have h1 := HTT.out b ht; have h2 := HOK.out; have h3 := HLT.out; rcases hb with hb | hb; have := h2.2 b hb; omega; omega)
        clear HXmW3 HSmW3 HMmW3 HOmW3 HX3 HS3 HK3 HV3 HSZW3 HXv HSK HXW HXM HFk HFv HRk
        have HHL := Aside0.mk (lt_of_blk HR.out.hh)
        have HUL := Aside0.mk (show ∀ b, u.ownBlock = some b → b < w.heap.size from fun b hb => (HU.out b hb).2.1)
        have sb := HS5.out
        have s0 := (blk_cell sb 0).trans rfl
        have s1 := (blk_cell sb 1).trans rfl
        have s2 := (blk_cell sb 2).trans rfl
        have s3 := (blk_cell sb 3).trans rfl
        have s4 := (blk_cell sb 4).trans rfl
        have s5 := (blk_cell sb 5).trans rfl
        have s6 := (blk_cell sb 6).trans rfl
        have s7 := (blk_cell sb 7).trans rfl
        have s8 := (blk_cell sb 8).trans rfl
        have s9 := (blk_cell sb 9).trans rfl
        have s10 := (blk_cell sb 10).trans rfl
        have s11 := (blk_cell sb 11).trans rfl
        have s12 := (blk_cell sb 12).trans rfl
        have sl := lt_of_blk sb
        by_cases h0 : how = 0
        · subst h0
          have kb := HK5.out
          have k0 := (blk_cell kb 0).trans rfl
          have k1 := (blk_cell kb 1).trans rfl
          have k2 := (blk_cell kb 2).trans rfl
          have k3 := (blk_cell kb 3).trans rfl
          have k4 := (blk_cell kb 4).trans rfl
          have kl := lt_of_blk kb
          have vb := HV5.out
          have v0 := (blk_cell vb 0).trans rfl
          have v1 := (blk_cell vb 1).trans rfl
          have v2 := (blk_cell vb 2).trans rfl
          have v3 := (blk_cell vb 3).trans rfl
          have v4 := (blk_cell vb 4).trans rfl
          have vl := lt_of_blk vb
          by_cases hw : wrongV x y = 0
          · have HW := Aside0.mk hw
            clear hw
            go_wp2_with fail
            refine (put_yes x y Ak Av ck cv g mb ob T _ rows came _ (HT.out.ex0 HX5.out) (by have := HN.out; omega) HCk.out.1 HCv.out.1 HFk5.out HFv5.out HOKT.out HW.out).mono ?_
            rintro e W6 ⟨had, z, Z, cz, rows', came', rfl, hcz, hFz, hlz, hx6, hT6, hP6⟩
            have HCZ := Aside0.mk hcz
            have HFZ := Aside0.mk hFz
            have HLZ := Aside0.mk hlz
            have HX56 := Aside0.mk hx6
            have HT6 := Aside0.mk hT6
            have HP6 := Aside0.mk hP6
            have HX6 := Aside0.mk ((HX5.out.mono (S2 := T) (fun _ h => h.elim)).trans hx6 (fun b hb => .inl (by rcases hb with rfl | rfl | rfl; exact HT.out.tg; exact HT.out.tm; exact HT.out.tb)))
            have HS6 := Aside0.mk (hx6.blk HS5.out (fun e => by have h1 := HTT.out g HT.out.tg; have h2 := HTT.out mb HT.out.tm; have h3 := HTT.out ob HT.out.tb; have h4 := HLT.out; omega))
            have HK6 := Aside0.mk (hx6.blk HK5.out (fun e => by have h1 := HTT.out g HT.out.tg; have h2 := HTT.out mb HT.out.tm; have h3 := HTT.out ob HT.out.tb; have h4 := HLT.out; omega))
            have HV6 := Aside0.mk (hx6.blk HV5.out (fun e => by have h1 := HTT.out g HT.out.tg; have h2 := HTT.out mb HT.out.tm; have h3 := HTT.out ob HT.out.tb; have h4 := HLT.out; omega))
            clear sb sl s0 s1 s2 s3 s4 s5 s6 s7 s8 s9 s10 s11 s12
            clear kb kl k0 k1 k2 k3 k4
            clear vb vl v0 v1 v2 v3 v4
            clear hcz hFz hlz hx6 hT6 hP6
            have sb := HS6.out
            have s0 := (blk_cell sb 0).trans rfl
            have s1 := (blk_cell sb 1).trans rfl
            have s2 := (blk_cell sb 2).trans rfl
            have s3 := (blk_cell sb 3).trans rfl
            have s4 := (blk_cell sb 4).trans rfl
            have s5 := (blk_cell sb 5).trans rfl
            have s6 := (blk_cell sb 6).trans rfl
            have s7 := (blk_cell sb 7).trans rfl
            have s8 := (blk_cell sb 8).trans rfl
            have s9 := (blk_cell sb 9).trans rfl
            have s10 := (blk_cell sb 10).trans rfl
            have s11 := (blk_cell sb 11).trans rfl
            have s12 := (blk_cell sb 12).trans rfl
            have sl := lt_of_blk sb
            go_wp2_with fail
            have hwc := wrong_calls x y A B c d (W6.alloc (.cells #[.int .u8 z.f0, .int .i64 z.f1, .string z.f2, .slice Z z.f3.length cz, .int .i64 z.f4] 27)) ok HXY.out.1 HXY.out.2.1 (ex_F (HX6.out.alloc (.cells #[.int .u8 z.f0, .int .i64 z.f1, .string z.f2, .slice Z z.f3.length cz, .int .i64 z.f4] 27)) HF.out.1 (fun b hb ht => HOKT.out b (.inl hb) ht)) (ex_F (HX6.out.alloc (.cells #[.int .u8 z.f0, .int .i64 z.f1, .string z.f2, .slice Z z.f3.length cz, .int .i64 z.f4] 27)) HF.out.2 (fun b hb ht => HOKT.out b (.inl hb) ht)) HXY.out.2.2.1 HXY.out.2.2.2
            rw [HW.out] at hwc
            refine hwc.mono ?_
            rintro e W7 ⟨rfl, hx7⟩
            have HX67 := Aside0.mk (((Ex.refl (fun _ => False) W6).alloc (.cells #[.int .u8 z.f0, .int .i64 z.f1, .string z.f2, .slice Z z.f3.length cz, .int .i64 z.f4] 27)).trans hx7 (fun _ h => h.elim))
            have HZ7 := Aside0.mk (hx7.blk (blk_new1 W6 (.cells #[.int .u8 z.f0, .int .i64 z.f1, .string z.f2, .slice Z z.f3.length cz, .int .i64 z.f4] 27)) (fun h => h))
            clear hx7 hwc
            clear sb sl s0 s1 s2 s3 s4 s5 s6 s7 s8 s9 s10 s11 s12
            have HS7 := Aside0.mk (HX67.out.blk HS6.out (fun h => h))
            have HK7 := Aside0.mk (HX67.out.blk HK6.out (fun h => h))
            have HV7 := Aside0.mk (HX67.out.blk HV6.out (fun h => h))
            have HSZ7 := Aside0.mk (show W5.heap.size ≤ W6.heap.size ∧ W6.heap.size < W7.heap.size from ⟨HX56.out.size, lt_of_blk HZ7.out⟩)
            have kb := HK7.out
            have k0 := (blk_cell kb 0).trans rfl
            have k1 := (blk_cell kb 1).trans rfl
            have k2 := (blk_cell kb 2).trans rfl
            have k3 := (blk_cell kb 3).trans rfl
            have k4 := (blk_cell kb 4).trans rfl
            have kl := lt_of_blk kb
            go_wp2_with fail
            obtain ⟨hmx, hmy, _⟩ := wrong_ok HW.out
            have HRk7 := Aside0.mk (ex_R HX67.out (ex_R HX56.out (HRk5.out hmx) (fun b hb e => by have h0 := hb.1; have h1 := HTT.out g HT.out.tg; have h2 := HTT.out mb HT.out.tm; have h3 := HTT.out ob HT.out.tb; have h4 := HLT.out; omega)) (fun _ _ h => h))
            have HRv7 := Aside0.mk (ex_R HX67.out (ex_R HX56.out (HRv.out hmy) (fun b hb e => by have h0 := hb.1; have h1 := HTT.out g HT.out.tg; have h2 := HTT.out mb HT.out.tm; have h3 := HTT.out ob HT.out.tb; have h4 := HLT.out; omega)) (fun _ _ h => h))
            clear hmx hmy
            refine (spoil_calls x n1 (fun b => n1 ≤ b ∧ b < n2) (fun b => n1 ≤ b ∧ b < n2) W7 W7 _ _ _ _ _ HRk7.out (fun _ h => h) (fun b hb => by have h1 := HLT.out; have h2 := HSZ7.out; have := hb.2; omega) (Sp.refl _ _)).mono ?_
            rintro e W8 ⟨⟨rv, rfl⟩, hs8⟩
            have HX78 := Aside0.mk hs8.1
            clear hs8
            clear kb kl k0 k1 k2 k3 k4
            have HS8 := Aside0.mk (HX78.out.blk HS7.out (fun e => by have := e.1; have := e.2; have h1 := HLT.out; have h2 := HSZ7.out; omega))
            have HV8 := Aside0.mk (HX78.out.blk HV7.out (fun e => by have := e.1; have := e.2; have h1 := HLT.out; have h2 := HSZ7.out; omega))
            have HZ8 := Aside0.mk (HX78.out.blk HZ7.out (fun e => by have := e.1; have := e.2; have h1 := HLT.out; have h2 := HSZ7.out; omega))
            have HRv8 := Aside0.mk (ex_R HX78.out HRv7.out (fun b hb e => by have := hb.1; have := e.2; have h1 := HLT.out; omega))
            have vb := HV8.out
            have v0 := (blk_cell vb 0).trans rfl
            have v1 := (blk_cell vb 1).trans rfl
            have v2 := (blk_cell vb 2).trans rfl
            have v3 := (blk_cell vb 3).trans rfl
            have v4 := (blk_cell vb 4).trans rfl
            have vl := lt_of_blk vb
            go_wp2_with fail
            refine (spoil_calls y n3 (fun b => n3 ≤ b ∧ b < n4) (fun b => n3 ≤ b ∧ b < n4) W8 W8 _ _ _ _ _ HRv8.out (fun _ h => h) (fun b hb => by have h1 := HLT.out; have h2 := HSZ7.out; have h3 := HX78.out.size; have := hb.2; omega) (Sp.refl _ _)).mono ?_
            rintro e W9 ⟨⟨rv2, rfl⟩, hs9⟩
            have HX89 := Aside0.mk hs9.1
            clear hs9
            clear vb vl v0 v1 v2 v3 v4
            have HS9 := Aside0.mk (HX89.out.blk HS8.out (fun e => by have := e.1; have := e.2; have h1 := HLT.out; have h2 := HSZ7.out; omega))
            have HZ9 := Aside0.mk (HX89.out.blk HZ8.out (fun e => by have := e.1; have := e.2; have h1 := HLT.out; have h2 := HSZ7.out; omega))
            have HX69 := Aside0.mk (show Ex (fun b => W1m.heap.size ≤ b ∧ b < W5.heap.size) W6 W9 from (((HX67.out.mono (fun _ h => h.elim)).trans HX78.out (fun b hb => .inl (by have h1 := HLT.out; have := hb.1; have := hb.2; omega))).trans HX89.out (fun b hb => .inl (by have h1 := HLT.out; have := hb.1; have := hb.2; omega))))
            have HX9 := Aside0.mk (HX6.out.trans HX69.out (fun b hb => .inr (by have := hb.1; have h1 := HLT.out; omega)))
            have HFZ9 := Aside0.mk (ex_F HX69.out HFZ.out (fun b hb e => by have h0 := HTT.out b hb; have h1 := HLT.out; have := e.1; omega))
            have HSZ9 := Aside0.mk HX69.out.size
            clear HX78 HX89 HS7 HK7 HV7 HZ7 HS8 HV8 HZ8 HRk7 HRv7 HRv8 HX67
            have sb := HS9.out
            have s0 := (blk_cell sb 0).trans rfl
            have s1 := (blk_cell sb 1).trans rfl
            have s2 := (blk_cell sb 2).trans rfl
            have s3 := (blk_cell sb 3).trans rfl
            have s4 := (blk_cell sb 4).trans rfl
            have s5 := (blk_cell sb 5).trans rfl
            have s6 := (blk_cell sb 6).trans rfl
            have s7 := (blk_cell sb 7).trans rfl
            have s8 := (blk_cell sb 8).trans rfl
            have s9 := (blk_cell sb 9).trans rfl
            have s10 := (blk_cell sb 10).trans rfl
            have s11 := (blk_cell sb 11).trans rfl
            have s12 := (blk_cell sb 12).trans rfl
            have sl := lt_of_blk sb
            go_wp2_with fail
            have HR9 := Aside0.mk (HR.out.ex HX9.out HH.out.2.2 (fun b hb e => (HU.out b e.symm).2.2 hb) (fun b hb ht => HOKT.out b (.inl hb) ht))
            refine (rput_yes x y A B c d _ HR9.out (by have := HN.out; omega) (by have := HOK.out.1; have := HX9.out.size; omega) HH.out.2.1 HOK.out.2 ⟨HXY.out.1, HXY.out.2.1, ex_F HX9.out HF.out.1 (fun b hb ht => HOKT.out b (.inl hb) ht), ex_F HX9.out HF.out.2 (fun b hb ht => HOKT.out b (.inl hb) ht), HXY.out.2.2.1.lens⟩).mono ?_
            rintro e WA ⟨had2, z2, Z2, cz2, u', l', rfl, hcz2, hFz2, hxA, hRA, huA, hPA⟩
            obtain ⟨hh2, hz2, hrelA, hlA, hcA⟩ := put_meet HT.out HREL.out HP6.out hPA
            subst hh2 hz2
            have HCZ2 := Aside0.mk hcz2
            have HFZ2 := Aside0.mk hFz2
            have HXA := Aside0.mk hxA
            have HRA := Aside0.mk hRA
            have HUA := Aside0.mk huA
            have HPN := Aside0.mk (And.intro hrelA (And.intro hlA hcA))
            have HZA := Aside0.mk (hxA.blk HZ9.out (fun e => by have h1 := HHL.out; have h2 := HSZ7.out; have h3 := HLT.out; rcases e with e | e; omega; have := HUL.out _ e.symm; omega))
            clear hcz2 hFz2 hxA hRA huA hPA hrelA hlA hcA
            clear sb sl s0 s1 s2 s3 s4 s5 s6 s7 s8 s9 s10 s11 s12
            have qb := HZA.out
            have q0 := (blk_cell qb 0).trans rfl
            have q1 := (blk_cell qb 1).trans rfl
            have q2 := (blk_cell qb 2).trans rfl
            have q3 := (blk_cell qb 3).trans rfl
            have q4 := (blk_cell qb 4).trans rfl
            have ql := lt_of_blk qb
            go_wp2_with fail
            have hsc := same_calls z2 z2 Z Z2 cz cz2 (WA.alloc (.cells #[.int .u8 z2.f0, .int .i64 z2.f1, .string z2.f2, .slice Z2 z2.f3.length cz2, .int .i64 z2.f4] 27)) HCZ.out (Kd.F_now (ex_F (HXA.out.alloc (.cells #[.int .u8 z2.f0, .int .i64 z2.f1, .string z2.f2, .slice Z2 z2.f3.length cz2, .int .i64 z2.f4] 27)) HFZ9.out (fun b hb e => by rcases e with e | e; exact HH.out.2.2 (e ▸ hb); exact (HU.out b e.symm).2.2 hb))) HCZ2.out (Kd.F_now (ex_F ((Ex.refl (fun _ => False) WA).alloc (.cells #[.int .u8 z2.f0, .int .i64 z2.f1, .string z2.f2, .slice Z2 z2.f3.length cz2, .int .i64 z2.f4] 27)) HFZ2.out (fun _ _ h => h))) HLZ.out
            rw [eqS_iff.2 rfl] at hsc
            refine hsc.mono ?_
            rintro e WB ⟨rfl, hbB⟩
            have HXB := Aside0.mk (((Ex.refl (fun _ => False) WA).alloc (.cells #[.int .u8 z2.f0, .int .i64 z2.f1, .string z2.f2, .slice Z2 z2.f3.length cz2, .int .i64 z2.f4] 27)).then_below hbB)
            clear hsc hbB
            clear qb ql q0 q1 q2 q3 q4
            go_wp2_with fail
            go_ret
            have hAB := HXA.out.trans HXB.out (fun b hb => hb.elim)
            have h6B := ((HX69.out.mono (S2 := fun b => (W1m.heap.size ≤ b ∧ b < W5.heap.size) ∨ b = h ∨ some b = u.ownBlock) (fun _ h => .inl h)).trans hAB (fun b hb => .inl (.inr hb)))
            have hwB := Nat.le_trans HX6.out.size h6B.size
            refine ⟨rfl, ((HX9.out.mono (S2 := S) (fun b hb => (HTT.out b hb).1)).trans hAB (fun b hb => .inl (by rcases hb with e | e; exact e ▸ HH.out.1; exact (HU.out b e.symm).1))), pair_end (w := w) (T := T) (T' := fun b => (T b ∨ W5.heap.size ≤ b) ∧ b < W6.heap.size) (u := u) HOK.out.1 HTT.out HH.out HHL.out HU.out (HT6.out.ex h6B ?_) ?_ (HRA.out.ex0 HXB.out) HPN.out.1 (by have := HPN.out.2.2; have := HN.out.1; omega) (by have := HPN.out.2.1; have := HN.out.2.1; omega) ?_ hwB⟩
            · rintro b ⟨hb1, hb2⟩ e
              have h1 := HLT.out
              have h2 := HHL.out
              rcases e with e | e | e
              · rcases hb1 with hb1 | hb1
                · have := HTT.out b hb1; omega
                · omega
              · subst e; rcases hb1 with hb1 | hb1
                · exact HH.out.2.2 hb1
                · omega
              · have h3 := HU.out b e.symm; rcases hb1 with hb1 | hb1
                · exact h3.2.2 hb1
                · omega
            · rintro b ⟨hb1, hb2⟩
              have h1 := HLT.out
              have h2 := h6B.size
              exact ⟨hb1.imp id (fun h => by omega), by omega⟩
            · rcases HUA.out with h3 | ⟨b1, h3, h4⟩
              · exact .inl h3
              · refine .inr (fun b hb => ?_)
                obtain rfl : b = b1 := by rw [h3] at hb; exact (Option.some.inj hb).symm
                have h5 := HX9.out.size; have h6 := HSZ9.out
                exact ⟨by omega, fun h7 => by have := h7.2; omega⟩
          · have HW := Aside0.mk hw
            clear hw
            go_wp2_with fail
            refine (put_no x y Ak Av ck cv g mb ob T _ rows came _ (HT.out.ex0 HX5.out) (by have := HN.out; omega) HCk.out.1 HCv.out.1 HFk5.out HFv5.out HOKT.out HW.out).mono ?_
            rintro e W6 ⟨rfl, hx6⟩
            have HX6 := Aside0.mk (HX5.out.trans hx6 (fun _ h => h.elim))
            have HS6 := Aside0.mk (hx6.blk HS5.out (fun h => h))
            clear hx6
            clear sb sl s0 s1 s2 s3 s4 s5 s6 s7 s8 s9 s10 s11 s12
            clear kb kl k0 k1 k2 k3 k4
            clear vb vl v0 v1 v2 v3 v4
            have sb := HS6.out
            have s0 := (blk_cell sb 0).trans rfl
            have s1 := (blk_cell sb 1).trans rfl
            have s2 := (blk_cell sb 2).trans rfl
            have s3 := (blk_cell sb 3).trans rfl
            have s4 := (blk_cell sb 4).trans rfl
            have s5 := (blk_cell sb 5).trans rfl
            have s6 := (blk_cell sb 6).trans rfl
            have s7 := (blk_cell sb 7).trans rfl
            have s8 := (blk_cell sb 8).trans rfl
            have s9 := (blk_cell sb 9).trans rfl
            have s10 := (blk_cell sb 10).trans rfl
            have s11 := (blk_cell sb 11).trans rfl
            have s12 := (blk_cell sb 12).trans rfl
            have sl := lt_of_blk sb
            go_wp2_with fail
            refine (wrong_calls x y A B c d (W6.alloc (.cells #[.int .u8 0, .int .i64 0, .string ⟨#[]⟩, .slice none 0 0, .int .i64 0] 27)) ok HXY.out.1 HXY.out.2.1 (ex_F (HX6.out.alloc (.cells #[.int .u8 0, .int .i64 0, .string ⟨#[]⟩, .slice none 0 0, .int .i64 0] 27)) HF.out.1 (fun _ _ h => h)) (ex_F (HX6.out.alloc (.cells #[.int .u8 0, .int .i64 0, .string ⟨#[]⟩, .slice none 0 0, .int .i64 0] 27)) HF.out.2 (fun _ _ h => h)) HXY.out.2.2.1 HXY.out.2.2.2).mono ?_
            rintro e W7 ⟨rfl, hx7⟩
            have HX7 := Aside0.mk ((HX6.out.alloc (.cells #[.int .u8 0, .int .i64 0, .string ⟨#[]⟩, .slice none 0 0, .int .i64 0] 27)).trans hx7 (fun _ h => h.elim))
            have HZ7 := Aside0.mk (hx7.blk (blk_new1 W6 (.cells #[.int .u8 0, .int .i64 0, .string ⟨#[]⟩, .slice none 0 0, .int .i64 0] 27)) (fun h => h))
            clear hx7
            clear sb sl s0 s1 s2 s3 s4 s5 s6 s7 s8 s9 s10 s11 s12
            have hne : (wrongV x y != 0) = true := by simpa using HW.out
            have qb := HZ7.out
            have q0 := (blk_cell qb 0).trans rfl
            have q1 := (blk_cell qb 1).trans rfl
            have q2 := (blk_cell qb 2).trans rfl
            have q3 := (blk_cell qb 3).trans rfl
            have q4 := (blk_cell qb 4).trans rfl
            have ql := lt_of_blk qb
            go_wp2_with fail
            refine (same_zero _).mono ?_
            rintro e W8 ⟨rfl, hb8⟩
            have HX8 := Aside0.mk (HX7.out.then_below hb8)
            clear hb8
            clear qb ql q0 q1 q2 q3 q4
            go_wp2_with fail
            go_ret
            exact ⟨rfl, HX8.out.mono (fun _ h => h.elim), pair_same HOK.out.1 HTT.out HH.out HHL.out HU.out (HT.out.ex0 HX8.out) (HR.out.ex0 HX8.out) HREL.out HN.out.1 HN.out.2.1 HX8.out.size⟩
        · have e0 : (how == 0) = false := by simpa using h0
          by_cases h1 : how = 1
          · subst h1
            have kb := HK5.out
            have k0 := (blk_cell kb 0).trans rfl
            have k1 := (blk_cell kb 1).trans rfl
            have k2 := (blk_cell kb 2).trans rfl
            have k3 := (blk_cell kb 3).trans rfl
            have k4 := (blk_cell kb 4).trans rfl
            have kl := lt_of_blk kb
            by_cases hw : wrongV x z27 = 0
            · have HW := Aside0.mk hw
              clear hw
              go_wp2_with fail
              refine (get_yes x Ak ck g mb ob T _ rows came _ (HT.out.ex0 HX5.out) HFk5.out HW.out).mono ?_
              rintro e W6 ⟨had, z, Z, cz, rfl, hcz, hRz, hlz, hx6, hP6⟩
              have HCZ := Aside0.mk hcz
              have HLZ := Aside0.mk hlz
              have HP6 := Aside0.mk hP6
              have HX6 := Aside0.mk (HX5.out.trans hx6 (fun _ h => h.elim))
              have HRZ := Aside0.mk (Kd.R_mono (ok' := fun b => W5.heap.size ≤ b ∧ b < W6.heap.size) (Kd.R_bound hRz) (fun k hk => ⟨hk.2.1, hk.2.2.1⟩))
              have HS6 := Aside0.mk (hx6.blk HS5.out (fun h => h))
              clear hcz hRz hlz hx6 hP6
              clear sb sl s0 s1 s2 s3 s4 s5 s6 s7 s8 s9 s10 s11 s12
              clear kb kl k0 k1 k2 k3 k4
              have sb := HS6.out
              have s0 := (blk_cell sb 0).trans rfl
              have s1 := (blk_cell sb 1).trans rfl
              have s2 := (blk_cell sb 2).trans rfl
              have s3 := (blk_cell sb 3).trans rfl
              have s4 := (blk_cell sb 4).trans rfl
              have s5 := (blk_cell sb 5).trans rfl
              have s6 := (blk_cell sb 6).trans rfl
              have s7 := (blk_cell sb 7).trans rfl
              have s8 := (blk_cell sb 8).trans rfl
              have s9 := (blk_cell sb 9).trans rfl
              have s10 := (blk_cell sb 10).trans rfl
              have s11 := (blk_cell sb 11).trans rfl
              have s12 := (blk_cell sb 12).trans rfl
              have sl := lt_of_blk sb
              go_wp2_with fail
              have hwc := wrong_calls x z27 A none c 0 (W6.alloc (.cells #[.int .u8 z.f0, .int .i64 z.f1, .string z.f2, .slice Z z.f3.length cz, .int .i64 z.f4] 27)) ok HXY.out.1 (Nat.le_refl 0) (ex_F (HX6.out.alloc (.cells #[.int .u8 z.f0, .int .i64 z.f1, .string z.f2, .slice Z z.f3.length cz, .int .i64 z.f4] 27)) HF.out.1 (fun _ _ h => h)) (Kd.F_nil k27 (W6.alloc (.cells #[.int .u8 z.f0, .int .i64 z.f1, .string z.f2, .slice Z z.f3.length cz, .int .i64 z.f4] 27)) ok) HXY.out.2.2.1 (may_wf may_z)
              rw [HW.out] at hwc
              refine hwc.mono ?_
              rintro e W7 ⟨rfl, hx7⟩
              have HX67 := Aside0.mk (((Ex.refl (fun _ => False) W6).alloc (.cells #[.int .u8 z.f0, .int .i64 z.f1, .string z.f2, .slice Z z.f3.length cz, .int .i64 z.f4] 27)).trans hx7 (fun _ h => h.elim))
              have HZ7 := Aside0.mk (hx7.blk (blk_new1 W6 (.cells #[.int .u8 z.f0, .int .i64 z.f1, .string z.f2, .slice Z z.f3.length cz, .int .i64 z.f4] 27)) (fun h => h))
              clear hx7 hwc
              clear sb sl s0 s1 s2 s3 s4 s5 s6 s7 s8 s9 s10 s11 s12
              have HS7 := Aside0.mk (HX67.out.blk HS6.out (fun h => h))
              have HX7 := Aside0.mk (HX6.out.trans HX67.out (fun _ h => h.elim))
              have sb := HS7.out
              have s0 := (blk_cell sb 0).trans rfl
              have s1 := (blk_cell sb 1).trans rfl
              have s2 := (blk_cell sb 2).trans rfl
              have s3 := (blk_cell sb 3).trans rfl
              have s4 := (blk_cell sb 4).trans rfl
              have s5 := (blk_cell sb 5).trans rfl
              have s6 := (blk_cell sb 6).trans rfl
              have s7 := (blk_cell sb 7).trans rfl
              have s8 := (blk_cell sb 8).trans rfl
              have s9 := (blk_cell sb 9).trans rfl
              have s10 := (blk_cell sb 10).trans rfl
              have s11 := (blk_cell sb 11).trans rfl
              have s12 := (blk_cell sb 12).trans rfl
              have sl := lt_of_blk sb
              go_wp2_with fail
              refine (rget_yes x A c _ (HR.out.ex0 HX7.out) (by have := HN.out; omega) HXY.out.1 (ex_F HX7.out HF.out.1 (fun _ _ h => h))).mono ?_
              rintro e W8 ⟨had2, z2, Z2, cz2, rfl, hcz2, hFz2, hx8, hP8⟩
              obtain ⟨hh2, hz2⟩ := get_meet HT.out HREL.out HP6.out hP8
              subst hh2 hz2
              have HCZ2 := Aside0.mk hcz2
              have HFZ2 := Aside0.mk hFz2
              have HX68 := Aside0.mk (HX67.out.trans hx8 (fun _ h => h.elim))
              have HZ8 := Aside0.mk (hx8.blk HZ7.out (fun h => h))
              clear hcz2 hFz2 hx8 hP8
              clear sb sl s0 s1 s2 s3 s4 s5 s6 s7 s8 s9 s10 s11 s12
              have qb := HZ8.out
              have q0 := (blk_cell qb 0).trans rfl
              have q1 := (blk_cell qb 1).trans rfl
              have q2 := (blk_cell qb 2).trans rfl
              have q3 := (blk_cell qb 3).trans rfl
              have q4 := (blk_cell qb 4).trans rfl
              have ql := lt_of_blk qb
              go_wp2_with fail
              have hsc := same_calls z2 z2 Z Z2 cz cz2 (W8.alloc (.cells #[.int .u8 z2.f0, .int .i64 z2.f1, .string z2.f2, .slice Z2 z2.f3.length cz2, .int .i64 z2.f4] 27)) HCZ.out (Kd.F_now (R_F (ex_R (HX68.out.alloc (.cells #[.int .u8 z2.f0, .int .i64 z2.f1, .string z2.f2, .slice Z2 z2.f3.length cz2, .int .i64 z2.f4] 27)) HRZ.out (fun _ _ h => h)))) HCZ2.out (Kd.F_now (ex_F ((Ex.refl (fun _ => False) W8).alloc (.cells #[.int .u8 z2.f0, .int .i64 z2.f1, .string z2.f2, .slice Z2 z2.f3.length cz2, .int .i64 z2.f4] 27)) HFZ2.out (fun _ _ h => h))) HLZ.out
              rw [eqS_iff.2 rfl] at hsc
              refine hsc.mono ?_
              rintro e W9 ⟨rfl, hb9⟩
              have HX69 := Aside0.mk (((HX68.out.alloc (.cells #[.int .u8 z2.f0, .int .i64 z2.f1, .string z2.f2, .slice Z2 z2.f3.length cz2, .int .i64 z2.f4] 27)).then_below hb9))
              have HZ9 := Aside0.mk ((((Ex.refl (fun _ => False) W8).alloc (.cells #[.int .u8 z2.f0, .int .i64 z2.f1, .string z2.f2, .slice Z2 z2.f3.length cz2, .int .i64 z2.f4] 27)).then_below hb9).blk HZ8.out (fun h => h))
              clear hsc hb9
              clear qb ql q0 q1 q2 q3 q4
              have HSZ := Aside0.mk (And.intro HX69.out.size HX5.out.size)
              have qb := HZ9.out
              have q0 := (blk_cell qb 0).trans rfl
              have q1 := (blk_cell qb 1).trans rfl
              have q2 := (blk_cell qb 2).trans rfl
              have q3 := (blk_cell qb 3).trans rfl
              have q4 := (blk_cell qb 4).trans rfl
              have ql := lt_of_blk qb
              go_wp2_with fail
              refine (spoil_calls z2 W5.heap.size (fun b => W5.heap.size ≤ b ∧ b < W6.heap.size) (fun b => W5.heap.size ≤ b ∧ b < W6.heap.size) W9 W9 _ _ _ _ _ (ex_R HX69.out HRZ.out (fun _ _ h => h)) (fun _ h => h) (fun b hb => by have h1 := HSZ.out.1; have := hb.2; omega) (Sp.refl _ _)).mono ?_
              rintro e WA ⟨⟨rv, rfl⟩, hsA⟩
              have HXE := Aside0.mk ((HX6.out.trans HX69.out (fun _ h => h.elim)).trans hsA.1 (fun b hb => .inr (by have h1 := HSZ.out.2; have := hb.1; omega)))
              clear hsA
              clear qb ql q0 q1 q2 q3 q4
              go_wp2_with fail
              go_ret
              exact ⟨rfl, HXE.out.mono (fun _ h => h.elim), pair_same HOK.out.1 HTT.out HH.out HHL.out HU.out (HT.out.ex0 HXE.out) (HR.out.ex0 HXE.out) HREL.out HN.out.1 HN.out.2.1 HXE.out.size⟩
            · have HW := Aside0.mk hw
              clear hw
              go_wp2_with fail
              refine (get_no x Ak ck g mb ob T _ rows came _ (HT.out.ex0 HX5.out) HFk5.out HW.out).mono ?_
              rintro e W6 ⟨rfl, hx6⟩
              have HX6 := Aside0.mk (HX5.out.trans hx6 (fun _ h => h.elim))
              have HS6 := Aside0.mk (hx6.blk HS5.out (fun h => h))
              clear hx6
              clear sb sl s0 s1 s2 s3 s4 s5 s6 s7 s8 s9 s10 s11 s12
              clear kb kl k0 k1 k2 k3 k4
              have sb := HS6.out
              have s0 := (blk_cell sb 0).trans rfl
              have s1 := (blk_cell sb 1).trans rfl
              have s2 := (blk_cell sb 2).trans rfl
              have s3 := (blk_cell sb 3).trans rfl
              have s4 := (blk_cell sb 4).trans rfl
              have s5 := (blk_cell sb 5).trans rfl
              have s6 := (blk_cell sb 6).trans rfl
              have s7 := (blk_cell sb 7).trans rfl
              have s8 := (blk_cell sb 8).trans rfl
              have s9 := (blk_cell sb 9).trans rfl
              have s10 := (blk_cell sb 10).trans rfl
              have s11 := (blk_cell sb 11).trans rfl
              have s12 := (blk_cell sb 12).trans rfl
              have sl := lt_of_blk sb
              go_wp2_with fail
              refine (wrong_calls x z27 A none c 0 (W6.alloc (.cells #[.int .u8 0, .int .i64 0, .string ⟨#[]⟩, .slice none 0 0, .int .i64 0] 27)) ok HXY.out.1 (Nat.le_refl 0) (ex_F (HX6.out.alloc (.cells #[.int .u8 0, .int .i64 0, .string ⟨#[]⟩, .slice none 0 0, .int .i64 0] 27)) HF.out.1 (fun _ _ h => h)) (Kd.F_nil k27 (W6.alloc (.cells #[.int .u8 0, .int .i64 0, .string ⟨#[]⟩, .slice none 0 0, .int .i64 0] 27)) ok) HXY.out.2.2.1 (may_wf may_z)).mono ?_
              rintro e W7 ⟨rfl, hx7⟩
              have HX7 := Aside0.mk ((HX6.out.alloc (.cells #[.int .u8 0, .int .i64 0, .string ⟨#[]⟩, .slice none 0 0, .int .i64 0] 27)).trans hx7 (fun _ h => h.elim))
              have HZ7 := Aside0.mk (hx7.blk (blk_new1 W6 (.cells #[.int .u8 0, .int .i64 0, .string ⟨#[]⟩, .slice none 0 0, .int .i64 0] 27)) (fun h => h))
              clear hx7
              clear sb sl s0 s1 s2 s3 s4 s5 s6 s7 s8 s9 s10 s11 s12
              have hne : (wrongV x z27 != 0) = true := by simpa using HW.out
              have qb := HZ7.out
              have q0 := (blk_cell qb 0).trans rfl
              have q1 := (blk_cell qb 1).trans rfl
              have q2 := (blk_cell qb 2).trans rfl
              have q3 := (blk_cell qb 3).trans rfl
              have q4 := (blk_cell qb 4).trans rfl
              have ql := lt_of_blk qb
              go_wp2_with fail
              refine (same_zero _).mono ?_
              rintro e W8 ⟨rfl, hb8⟩
              have HX8 := Aside0.mk (HX7.out.then_below hb8)
              clear hb8
              clear qb ql q0 q1 q2 q3 q4
              go_wp2_with fail
              go_ret
              exact ⟨rfl, HX8.out.mono (fun _ h => h.elim), pair_same HOK.out.1 HTT.out HH.out HHL.out HU.out (HT.out.ex0 HX8.out) (HR.out.ex0 HX8.out) HREL.out HN.out.1 HN.out.2.1 HX8.out.size⟩
          · have e1 : (how == 1) = false := by simpa using h1
            by_cases h2 : how = 2
            · subst h2
              have kb := HK5.out
              have k0 := (blk_cell kb 0).trans rfl
              have k1 := (blk_cell kb 1).trans rfl
              have k2 := (blk_cell kb 2).trans rfl
              have k3 := (blk_cell kb 3).trans rfl
              have k4 := (blk_cell kb 4).trans rfl
              have kl := lt_of_blk kb
              by_cases hw : wrongV x z27 = 0
              · have HW := Aside0.mk hw
                clear hw
                go_wp2_with fail
                refine (drop_yes x Ak ck g mb ob T _ rows came _ (HT.out.ex0 HX5.out) HFk5.out HW.out).mono ?_
                rintro e W6 ⟨had, rows', rfl, hx6, hT6, hP6⟩
                have HT6 := Aside0.mk hT6
                have HP6 := Aside0.mk hP6
                have HX6 := Aside0.mk ((HX5.out.mono (S2 := T) (fun _ h => h.elim)).trans hx6 (fun b hb => .inl (by rcases hb with rfl | rfl; exact HT.out.tm; exact HT.out.tb)))
                have HS6 := Aside0.mk (hx6.blk HS5.out (fun e => by have h2 := HTT.out mb HT.out.tm; have h3 := HTT.out ob HT.out.tb; have h4 := HLT.out; omega))
                clear hT6 hx6 hP6
                clear sb sl s0 s1 s2 s3 s4 s5 s6 s7 s8 s9 s10 s11 s12
                clear kb kl k0 k1 k2 k3 k4
                have sb := HS6.out
                have s0 := (blk_cell sb 0).trans rfl
                have s1 := (blk_cell sb 1).trans rfl
                have s2 := (blk_cell sb 2).trans rfl
                have s3 := (blk_cell sb 3).trans rfl
                have s4 := (blk_cell sb 4).trans rfl
                have s5 := (blk_cell sb 5).trans rfl
                have s6 := (blk_cell sb 6).trans rfl
                have s7 := (blk_cell sb 7).trans rfl
                have s8 := (blk_cell sb 8).trans rfl
                have s9 := (blk_cell sb 9).trans rfl
                have s10 := (blk_cell sb 10).trans rfl
                have s11 := (blk_cell sb 11).trans rfl
                have s12 := (blk_cell sb 12).trans rfl
                have sl := lt_of_blk sb
                go_wp2_with fail
                have hwc := wrong_calls x z27 A none c 0 W6 ok HXY.out.1 (Nat.le_refl 0) (ex_F HX6.out HF.out.1 (fun b hb ht => HOKT.out b (.inl hb) ht)) (Kd.F_nil k27 W6 ok) HXY.out.2.2.1 (may_wf may_z)
                rw [HW.out] at hwc
                refine hwc.mono ?_
                rintro e W7 ⟨rfl, hx7⟩
                have HX67 := Aside0.mk hx7
                have HX7 := Aside0.mk (HX6.out.trans hx7 (fun _ h => h.elim))
                have HS7 := Aside0.mk (hx7.blk HS6.out (fun h => h))
                clear hx7 hwc
                clear sb sl s0 s1 s2 s3 s4 s5 s6 s7 s8 s9 s10 s11 s12
                have sb := HS7.out
                have s0 := (blk_cell sb 0).trans rfl
                have s1 := (blk_cell sb 1).trans rfl
                have s2 := (blk_cell sb 2).trans rfl
                have s3 := (blk_cell sb 3).trans rfl
                have s4 := (blk_cell sb 4).trans rfl
                have s5 := (blk_cell sb 5).trans rfl
                have s6 := (blk_cell sb 6).trans rfl
                have s7 := (blk_cell sb 7).trans rfl
                have s8 := (blk_cell sb 8).trans rfl
                have s9 := (blk_cell sb 9).trans rfl
                have s10 := (blk_cell sb 10).trans rfl
                have s11 := (blk_cell sb 11).trans rfl
                have s12 := (blk_cell sb 12).trans rfl
                have sl := lt_of_blk sb
                go_wp2_with fail
                have HR7 := Aside0.mk (HR.out.ex HX7.out HH.out.2.2 (fun b hb e => (HU.out b e.symm).2.2 hb) (fun b hb ht => HOKT.out b (.inl hb) ht))
                refine (rdrop_yes x A c _ HR7.out (by have := HN.out; omega) (by have := HOK.out.1; have := HX7.out.size; omega) HH.out.2.1 HOK.out.2 HXY.out.1 (ex_F HX7.out HF.out.1 (fun b hb ht => HOKT.out b (.inl hb) ht))).mono ?_
                rintro e W8 ⟨had2, u', l', rfl, hx8, hR8, hu8, hP8⟩
                obtain ⟨hh2, hrel8, hl8⟩ := drop_meet HT.out HREL.out HP6.out hP8
                subst hh2
                have HX8 := Aside0.mk hx8
                have HR8 := Aside0.mk hR8
                have HU8 := Aside0.mk hu8
                have HPN := Aside0.mk (And.intro hrel8 hl8)
                clear hx8 hR8 hu8 hP8 hrel8 hl8
                clear sb sl s0 s1 s2 s3 s4 s5 s6 s7 s8 s9 s10 s11 s12
                go_wp2_with fail
                go_ret
                have h68 := HX67.out.mono (S2 := fun b => b = h) (fun _ h => h.elim)
                have hwB := Nat.le_trans HX7.out.size HX8.out.size
                refine ⟨rfl, ((HX7.out.mono (S2 := S) (fun b hb => (HTT.out b hb).1)).trans HX8.out (fun b hb => .inl (hb ▸ HH.out.1))), pair_end (w := w) (T := T) (T' := T) (u := u) HOK.out.1 HTT.out HH.out HHL.out HU.out (HT6.out.ex (h68.trans HX8.out (fun b hb => .inl hb)) (fun b hb e => HH.out.2.2 (e ▸ hb))) (fun b hb => ⟨.inl hb, Nat.lt_of_lt_of_le (HTT.out b hb).2.1 hwB⟩) HR8.out HPN.out.1 (by have := HN.out.1; omega) (by have := HPN.out.2; have := HN.out.2.1; omega) ?_ hwB⟩
                rcases HU8.out with h3 | h3
                · exact .inl h3
                · exact .inr (fun b hb => ⟨by have := h3 b hb; have := HX7.out.size; omega, fun h7 => by have := h3 b hb; have := HX7.out.size; have := HTT.out b h7; omega⟩)
              · have HW := Aside0.mk hw
                clear hw
                go_wp2_with fail
                refine (drop_no x Ak ck g mb ob T _ rows came _ (HT.out.ex0 HX5.out) HFk5.out HW.out).mono ?_
                rintro e W6 ⟨rfl, hx6⟩
                have HX6 := Aside0.mk (HX5.out.trans hx6 (fun _ h => h.elim))
                have HS6 := Aside0.mk (hx6.blk HS5.out (fun h => h))
                clear hx6
                clear sb sl s0 s1 s2 s3 s4 s5 s6 s7 s8 s9 s10 s11 s12
                clear kb kl k0 k1 k2 k3 k4
                have sb := HS6.out
                have s0 := (blk_cell sb 0).trans rfl
                have s1 := (blk_cell sb 1).trans rfl
                have s2 := (blk_cell sb 2).trans rfl
                have s3 := (blk_cell sb 3).trans rfl
                have s4 := (blk_cell sb 4).trans rfl
                have s5 := (blk_cell sb 5).trans rfl
                have s6 := (blk_cell sb 6).trans rfl
                have s7 := (blk_cell sb 7).trans rfl
                have s8 := (blk_cell sb 8).trans rfl
                have s9 := (blk_cell sb 9).trans rfl
                have s10 := (blk_cell sb 10).trans rfl
                have s11 := (blk_cell sb 11).trans rfl
                have s12 := (blk_cell sb 12).trans rfl
                have sl := lt_of_blk sb
                go_wp2_with fail
                refine (wrong_calls x z27 A none c 0 W6 ok HXY.out.1 (Nat.le_refl 0) (ex_F HX6.out HF.out.1 (fun _ _ h => h)) (Kd.F_nil k27 W6 ok) HXY.out.2.2.1 (may_wf may_z)).mono ?_
                rintro e W7 ⟨rfl, hx7⟩
                have HX7 := Aside0.mk (HX6.out.trans hx7 (fun _ h => h.elim))
                clear hx7
                clear sb sl s0 s1 s2 s3 s4 s5 s6 s7 s8 s9 s10 s11 s12
                have hne : (wrongV x z27 != 0) = true := by simpa using HW.out
                go_wp2_with fail
                go_ret
                exact ⟨rfl, HX7.out.mono (fun _ h => h.elim), pair_same HOK.out.1 HTT.out HH.out HHL.out HU.out (HT.out.ex0 HX7.out) (HR.out.ex0 HX7.out) HREL.out HN.out.1 HN.out.2.1 HX7.out.size⟩
            · have e2 : (how == 2) = false := by simpa using h2
              clear h0 h1 h2
              go_wp2_with fail
              refine (walk_calls leave _ (HT.out.ex0 HX5.out) (HR.out.ex0 HX5.out) HREL.out (by have := HN.out; omega) (by have := HN.out; omega)).mono ?_
              rintro e W6 ⟨rfl, hx6⟩
              have HX6 := Aside0.mk (HX5.out.trans hx6 (fun _ h => h.elim))
              clear hx6
              clear sb sl s0 s1 s2 s3 s4 s5 s6 s7 s8 s9 s10 s11 s12
              go_wp2_with fail
              go_ret
              exact ⟨rfl, HX6.out.mono (fun _ h => h.elim), pair_same HOK.out.1 HTT.out HH.out HHL.out HU.out (HT.out.ex0 HX6.out) (HR.out.ex0 HX6.out) HREL.out HN.out.1 HN.out.2.1 HX6.out.size⟩
end Go.Proofs.Ythkemcekcfccpaa.PBrandCompares
end
section
namespace Go.Proofs.Ythkemcekcfccpaa.PBrandCompares
open Go.RowKit Go.Proofs.YthkemcekcfccpaaW.PrintWords Go.Proofs.YthkemcekcfccpaaW.PrintLast Go.Proofs.YthkemcekcfccpaaW.PrintMore
open Go.Proofs.Ythkemcekcfccpaa.GBrandCompares
set_option linter.unusedVariables false
set_option linter.unusedSimpArgs false
section
variable {H : Type} {enc : TypeId × Value → H} {w : World} {base : Nat} {spare : Nat → Bool} {held : Bool}
end
end Go.Proofs.Ythkemcekcfccpaa.PBrandCompares
end
section
namespace Go.Proofs.Ythkemcekcfccpaa.PBrandCompares
open Go.RowKit Go.Proofs.YthkemcekcfccpaaW.PrintWords Go.Proofs.YthkemcekcfccpaaW.PrintLast Go.Proofs.YthkemcekcfccpaaW.PrintMore
open Go.Proofs.Ythkemcekcfccpaa.GBrandCompares
set_option linter.unusedVariables false
set_option linter.unusedSimpArgs false
theorem cells58 : Try.prog.cellsOf 58 = 13 := by kernel_rfl
theorem cells3 : Try.prog.cellsOf 3 = 1 := by kernel_rfl
structure StepV where
  how : Int
  on : Int
  leave : Int
  x : S27
  A : Option Addr
  c : Nat
  y : S27
  B : Option Addr
  d : Nat
def StepV.cells (s : StepV) : List Value := [.int .i64 s.how, .int .i64 s.on, .int .i64 s.leave, .int .u8 s.x.f0, .int .i64 s.x.f1, .string s.x.f2, .slice s.A s.x.f3.length s.c, .int .i64 s.x.f4, .int .u8 s.y.f0, .int .i64 s.y.f1, .string s.y.f2, .slice s.B s.y.f3.length s.d, .int .i64 s.y.f4]
structure StepV.Good (w : World) (s : StepV) : Prop where
  hc : s.x.f3.length ≤ s.c
  hd : s.y.f3.length ≤ s.d
  fk : Kd.F k27 w (fun b => b < w.heap.size) s.A s.x.f3.length s.x.f3
  fv : Kd.F k27 w (fun b => b < w.heap.size) s.B s.y.f3.length s.y.f3
  wx : Wf s.x
  wy : Wf s.y
section
variable {H : Type} {enc : TypeId × Value → H} {w : World} {base : Nat} {spare : Nat → Bool} {held : Bool}
theorem thirteen {cs : List Value} (h : cs.length = 13) : ∃ a b c d0 d1 d2 d3 d4 e0 e1 e2 e3 e4, cs = [a, b, c, d0, d1, d2, d3, d4, e0, e1, e2, e3, e4] := by
  match cs, h with
  | [a, b, c, d0, d1, d2, d3, d4, e0, e1, e2, e3, e4], _ => exact ⟨a, b, c, d0, d1, d2, d3, d4, e0, e1, e2, e3, e4, rfl⟩
theorem trod_step (n : Nat) (cs : List Value) (x : DataW H × List MemPlace) (h : DataW.trod enc Try.prog w base spare held n 58 cs = some x) : ∃ s : StepV, cs = s.cells ∧ s.Good w := by
  obtain ⟨xs, n1, rfl, _, hl0, hn5, hf⟩ := DataW.trod_struct Try.underlying58 h
  rw [cells58] at hl0
  obtain ⟨a, b, c, d0, d1, d2, d3, d4, e0, e1, e2, e3, e4, rfl⟩ := thirteen hl0
  have g0 : DataW.trod enc Try.prog w base spare held n1 3 (List.take (Try.prog.cellsOf 3) (List.drop 0 [a, b, c, d0, d1, d2, d3, d4, e0, e1, e2, e3, e4])) = xs[0]? := hf 0 _ rfl
  have g1 : DataW.trod enc Try.prog w base spare held n1 3 (List.take (Try.prog.cellsOf 3) (List.drop 1 [a, b, c, d0, d1, d2, d3, d4, e0, e1, e2, e3, e4])) = xs[1]? := hf 1 _ rfl
  have g2 : DataW.trod enc Try.prog w base spare held n1 3 (List.take (Try.prog.cellsOf 3) (List.drop 2 [a, b, c, d0, d1, d2, d3, d4, e0, e1, e2, e3, e4])) = xs[2]? := hf 2 _ rfl
  have g3 : DataW.trod enc Try.prog w base spare held n1 27 (List.take (Try.prog.cellsOf 27) (List.drop 3 [a, b, c, d0, d1, d2, d3, d4, e0, e1, e2, e3, e4])) = xs[3]? := hf 3 _ rfl
  have g4 : DataW.trod enc Try.prog w base spare held n1 27 (List.take (Try.prog.cellsOf 27) (List.drop 8 [a, b, c, d0, d1, d2, d3, d4, e0, e1, e2, e3, e4])) = xs[4]? := hf 4 _ rfl
  have hlen : xs.length = 5 := by rw [hn5]; rfl
  simp only [cells3, cells27, List.drop_zero, List.drop_succ_cons, List.take_succ_cons, List.take_zero] at g0 g1 g2 g3 g4
  rw [List.getElem?_eq_getElem (by omega)] at g0 g1 g2 g3 g4
  obtain ⟨k, h0, _, _⟩ := DataW.trod_int Try.underlying3 g0
  obtain ⟨k1, h1, _, _⟩ := DataW.trod_int Try.underlying3 g1
  obtain ⟨k2, h2, _, _⟩ := DataW.trod_int Try.underlying3 g2
  simp only [List.cons.injEq, and_true] at h0 h1 h2
  subst h0
  subst h1
  subst h2
  obtain ⟨x, hK, hW⟩ := trod_value n1 _ _ g3
  obtain ⟨y, hK2, hW2⟩ := trod_value n1 _ _ g4
  obtain ⟨A, c, hcs, hl, hC⟩ := k27_open hK
  obtain ⟨B, d, hcs2, hl2, hC2⟩ := k27_open hK2
  simp only [List.cons.injEq, and_true] at hcs hcs2
  obtain ⟨rfl, rfl, rfl, rfl, rfl⟩ := hcs
  obtain ⟨rfl, rfl, rfl, rfl, rfl⟩ := hcs2
  exact ⟨⟨k, k1, k2, x, A, c, y, B, d⟩, rfl, ⟨hl, hl2, all_F hC, all_F hC2, hW, hW2⟩⟩
def Steps (w : World) (A : Option Addr) (n : Nat) : Prop := ∀ i, i < n → ∃ (ad : Addr) (s : StepV), A = some ad ∧ s.Good w ∧ (ad.add (i * 13)).block < w.heap.size ∧ w.cell? (ad.add (i * 13)) = some (.int .i64 s.how) ∧ ∀ j u, 0 < j → s.cells[j]? = some u → w.cell? ⟨(ad.add (i * 13)).block, (ad.add (i * 13)).off + j, none⟩ = some u
theorem trod_steps {n : Nat} {v : Value} {x : DataW H × List MemPlace} (h : DataW.trod enc Try.prog w base spare held n 50 [v] = some x) :
    ∃ (m : Nat) (A : Option Addr) (c : Nat), v = .slice A m c ∧ m ≤ c ∧ m ≤ 9223372036854775807 ∧ Steps w A m := by
  rcases DataW.trod_slice Try.underlying50 h with ⟨e3, _⟩ | ⟨ad, len, cap, elems, rest, n2, hn2, e3, _, hb, hl, hm, hle, hx, _⟩
  · simp only [List.cons.injEq, and_true] at e3
    subst e3
    exact ⟨0, none, 0, rfl, Nat.le_refl _, by omega, fun i hi => absurd hi (by omega)⟩
  · simp only [List.cons.injEq, and_true] at e3
    subst e3
    refine ⟨len, some ad, cap, rfl, hl, by unfold maxLen at hm; omega, fun i hi => ?_⟩
    have hxi := hx i hi
    rw [List.getElem?_eq_getElem (by omega)] at hxi
    obtain ⟨cs, h1, h2⟩ := Option.bind_eq_some_iff.1 hxi
    rw [cells58] at h1
    obtain ⟨s, rfl, hg⟩ := trod_step n2 cs _ h2
    obtain ⟨_, hl5, hc⟩ := World.cells?_some h1
    have hj : ∀ j u, s.cells[j]? = some u → w.cell? (ad.add (i * 13 + j)) = some u := fun j u hj => by
      have hj5 : j < 13 := by have := (List.getElem?_eq_some_iff.1 hj).1; simpa [StepV.cells] using this
      rw [← Go.Deep.add_add, hc j hj5, hj]
    have h0 := hj 0 _ rfl
    rw [Nat.add_zero] at h0
    exact ⟨ad, s, rfl, hg, block_lt_of_cell h0, h0, fun j u hp hj' => by rw [← add_field _ _ j (by omega)]; exact hj j u hj'⟩
set_option maxRecDepth 100000 in
theorem open_steps {r : Reach} {b0 : Nat} {v : Value} {d : DataW H} {p : List MemPlace} (hv : Value.okWide Try.prog w r b0 50 v) (h : DataW.Trod enc Try.prog w base spare held 50 v d p) :
    ∃ (m : Nat) (A : Option Addr) (c : Nat), v = .slice A m c ∧ m ≤ c ∧ m ≤ 9223372036854775807 ∧ Steps w A m := by
  obtain ⟨a, l, c, rfl⟩ : ∃ a l c, v = .slice a l c := by
    simp only [Value.okWide, Try.underlying50, Cell.okWide] at hv
    cases v <;> simp_all [Cell.ok]
  obtain ⟨n, hf⟩ := h
  exact trod_steps hf
end
end Go.Proofs.Ythkemcekcfccpaa.PBrandCompares
end
section
namespace Go.Proofs.Ythkemcekcfccpaa.PBrandCompares
open Go.RowKit Go.Shelf Go.Proofs.YthkemcekcfccpaaW.PrintWords Go.Proofs.YthkemcekcfccpaaW.PrintLast Go.Proofs.YthkemcekcfccpaaW.PrintMore
open Go.Proofs.Ythkemcekcfccpaa.GBrandCompares
set_option linter.unusedVariables false
set_option linter.unusedSimpArgs false
theorem Pair.ex {w w' : World} {base : Nat} {ok S S2 : Nat → Prop} {g h n : Nat} (hp : Pair w base ok S g h n) (hx : Ex S2 w w') (hs : ∀ b, S b → ¬ S2 b) (hok : ∀ b, ok b → ¬ S2 b) : Pair w' base ok S g h n := by
  obtain ⟨mb, ob, T, rows, came, u, l, ht, hr, hrel, hcame, hll, hT, hh, hu⟩ := hp
  exact ⟨mb, ob, T, rows, came, u, l, ht.ex hx (fun b hb => hs b (hT b hb).1), hr.ex hx (hs _ hh.1) (fun b hb e => hs b (hu b e.symm).1 hb) hok, hrel, hcame, hll,
    fun b hb => ⟨(hT b hb).1, Nat.lt_of_lt_of_le (hT b hb).2.1 hx.size, (hT b hb).2.2⟩, hh, fun b hb => ⟨(hu b hb).1, Nat.lt_of_lt_of_le (hu b hb).2.1 hx.size, (hu b hb).2.2⟩⟩
theorem Pair.ex0 {w w' : World} {base : Nat} {ok S : Nat → Prop} {g h n : Nat} (hp : Pair w base ok S g h n) (hx : Ex (fun _ => False) w w') : Pair w' base ok S g h n := hp.ex hx (fun _ _ h => h) (fun _ _ h => h)
theorem Pair.mono {w : World} {base : Nat} {ok S S' : Nat → Prop} {g h n n' : Nat} (hp : Pair w base ok S g h n) (hs : ∀ b, S b → S' b) (hn : n ≤ n') : Pair w base ok S' g h n' := by
  obtain ⟨mb, ob, T, rows, came, u, l, ht, hr, hrel, hcame, hll, hT, hh, hu⟩ := hp
  exact ⟨mb, ob, T, rows, came, u, l, ht, hr, hrel, by omega, by omega, fun b hb => ⟨hs b (hT b hb).1, (hT b hb).2⟩, ⟨hs _ hh.1, hh.2⟩, fun b hb => ⟨hs b (hu b hb).1, (hu b hb).2⟩⟩
theorem walk_pair {w : World} {base : Nat} {ok S : Nat → Prop} {g h n : Nat} (leave : Int) (hp : Pair w base ok S g h n) (hn : n < 900000) :
    Calls Try.prog 23 #[.pointer (some ⟨g, 0, none⟩), .pointer (some ⟨h, 0, none⟩), .int .i64 leave] w fun e w' => e = .returned (.bool true) ∧ Ex (fun _ => False) w w' := by
  obtain ⟨mb, ob, T, rows, came, u, l, ht, hr, hrel, hcame, hll, hT, hh, hu⟩ := hp
  exact walk_calls leave w ht hr hrel (by omega) (by omega)
theorem copy_pair {w : World} {base : Nat} {ok S : Nat → Prop} {g h n : Nat} (hp : Pair w base ok S g h n) :
    Calls Try.prog 20 #[.pointer (some ⟨g, 0, none⟩)] w fun e w' => ∃ (g2 mb2 ob2 : Nat) (rows2 : List Row) (came : Nat) (u : Value) (l : List Pr), e = .returned (.pointer (some ⟨g2, 0, none⟩)) ∧ Ex (fun _ => False) w w' ∧ Tab w' g2 mb2 ob2 (fun b => w.heap.size ≤ b ∧ b < w'.heap.size) rows2 came ∧ RT w' base ok h u l ∧ Rel rows2 l ∧ came ≤ n ∧ l.length ≤ n ∧ S h ∧ ∀ b, u.ownBlock = some b → S b := by
  obtain ⟨mb, ob, T, rows, came, u, l, ht, hr, hrel, hcame, hll, hT, hh, hu⟩ := hp
  refine (copy_calls g mb ob T rows came w ht).mono ?_
  rintro e w' ⟨g2, mb2, ob2, rows2, rfl, hT2, hperm, hx, _⟩
  exact ⟨g2, mb2, ob2, rows2, came, u, l, rfl, hx, hT2.bound, hr.ex0 hx, hrel.perm hperm, hcame, hll, hh.1, fun b hb => (hu b hb).1⟩
theorem rcopy_pair {w w0 w' : World} {base : Nat} {ok : Nat → Prop} {g2 mb2 ob2 h2 n came : Nat} {rows2 : List Row} {u2 : Value} {l : List Pr} (hb : base ≤ w0.heap.size) (ht : Tab w' g2 mb2 ob2 (fun b => w0.heap.size ≤ b ∧ b < w.heap.size) rows2 came) (hr : RT w' base ok h2 u2 l) (hrel : Rel rows2 l) (h1 : came ≤ n) (h3 : l.length ≤ n) (h4 : w.heap.size ≤ h2) (h5 : ∀ b, u2.ownBlock = some b → w.heap.size ≤ b) (hs : w0.heap.size ≤ w.heap.size) (hsz : w.heap.size ≤ w'.heap.size) :
    Pair w' base ok (fun b => w0.heap.size ≤ b ∧ b < w'.heap.size) g2 h2 n := by
  have hl := lt_of_blk hr.hh
  refine ⟨mb2, ob2, _, rows2, came, u2, l, ht, hr, hrel, h1, h3, fun b hb' => ⟨⟨hb'.1, by omega⟩, by omega, by omega⟩, ⟨⟨by omega, hl⟩, by omega, fun h => by omega⟩, fun b hb' => ?_⟩
  have h6 := mine_lt hr.own hb'.symm
  have h7 := h5 b hb'
  exact ⟨⟨by omega, h6⟩, h6, fun h => by omega⟩
theorem pair_start {w : World} {base : Nat} {ok T : Nat → Prop} {g h mb ob : Nat} (ht : Tab w g mb ob T [] 0) (hT : ∀ b, T b → base ≤ b ∧ b < w.heap.size) (hh : w.heap[h]? = some (.cells #[.slice none 0 0] 55 (0, 0))) (hb : base ≤ h) (hn : ¬ T h) : Pair w base ok (fun b => T b ∨ b = h) g h 0 :=
  ⟨mb, ob, T, [], 0, .slice none 0 0, [], ht, ⟨hh, World.ownsRow_nil w base 88 10, by simp, by simp [Value.ownBlock]⟩, Rel.nil, Nat.le_refl _, Nat.le_refl _, fun b hb' => ⟨.inl hb', (hT b hb').2, (hT b hb').1⟩, ⟨.inr rfl, hb, hn⟩, fun b hb' => by simp [Value.ownBlock] at hb'⟩
def JS (W : World) (base : Nat) (ok S : Nat → Prop) (g h n : Nat) (bp : Bool) (w : World) : Prop := (bp = false → Ex (fun _ => False) W w) ∧ (bp = true → Ex S W w ∧ Pair w base ok (fun b => S b ∨ (W.heap.size ≤ b ∧ b < w.heap.size)) g h n)
theorem JS.grow {W w w' : World} {base : Nat} {ok S : Nat → Prop} {g h n : Nat} {bp : Bool} (j : JS W base ok S g h n bp w) (hx : Ex (fun _ => False) w w') : JS W base ok S g h n bp w' :=
  ⟨fun h => (j.1 h).trans hx (fun _ h => h.elim), fun h => ⟨(j.2 h).1.trans hx (fun _ h => h.elim), ((j.2 h).2.ex0 hx).mono (fun b hb => hb.imp id (fun hb => ⟨hb.1, Nat.lt_of_lt_of_le hb.2 hx.size⟩)) (Nat.le_refl _)⟩⟩
theorem JS.keep {W w : World} {base : Nat} {ok S : Nat → Prop} {g h n : Nat} {bp : Bool} (b : Bool) (hb : b = false) (j : JS W base ok S g h n bp w) : JS W base ok S g h n (bp || b) w := by
  subst hb
  rw [Bool.or_false]
  exact j
theorem JS.did {W w w' : World} {base : Nat} {ok S : Nat → Prop} {g h n : Nat} {bp : Bool} (b : Bool) (hb : b = true) (j : JS W base ok S g h n bp w) (hp : bp = false) (hx : Ex S w w') (hpq : Pair w' base ok (fun b => S b ∨ (w.heap.size ≤ b ∧ b < w'.heap.size)) g h n) : JS W base ok S g h n (bp || b) w' := by
  subst hb
  rw [Bool.or_true]
  have h0 := j.1 hp
  have hsz := h0.size
  exact ⟨fun h => (by cases h), fun _ => ⟨(h0.mono (fun _ h => h.elim)).trans hx (fun _ h => .inl h), hpq.mono (fun b hb => hb.imp id (fun hb => ⟨by omega, hb.2⟩)) (Nat.le_refl _)⟩⟩
structure TW (w : World) (t3 t4 g0 h0 g1 h1 i : Nat) (S0 S1 : Nat → Prop) (W : World) : Prop where
  ex : Ex (fun _ => False) w W
  b3 : W.heap[t3]? = some (.cells #[.pointer (some ⟨g0, 0, none⟩), .pointer (some ⟨g1, 0, none⟩)] 51 (0, 0))
  b4 : W.heap[t4]? = some (.cells #[.pointer (some ⟨h0, 0, none⟩), .pointer (some ⟨h1, 0, none⟩)] 56 (0, 0))
  p0 : Pair W w.heap.size (fun b => b < w.heap.size) S0 g0 h0 i
  p1 : Pair W w.heap.size (fun b => b < w.heap.size) S1 g1 h1 i
  apart : ∀ b, S0 b → ¬ S1 b
  s0 : ∀ b, S0 b → w.heap.size ≤ b ∧ b < W.heap.size ∧ b ≠ t3 ∧ b ≠ t4
  s1 : ∀ b, S1 b → w.heap.size ≤ b ∧ b < W.heap.size ∧ b ≠ t3 ∧ b ≠ t4
  lo : w.heap.size ≤ t3 ∧ w.heap.size ≤ t4 ∧ t3 ≠ t4
theorem and1 (x : Int) : bits .and .i64 x 1 = 0 ∨ bits .and .i64 x 1 = 1 := by
  have h : (BitVec.ofInt 64 x &&& BitVec.ofInt 64 1).toNat = 0 ∨ (BitVec.ofInt 64 x &&& BitVec.ofInt 64 1).toNat = 1 := by
    rw [BitVec.toNat_and, show (BitVec.ofInt 64 1).toNat = 2 ^ 1 - 1 from rfl, Nat.and_two_pow_sub_one_eq_mod]
    omega
  have e : bits .and .i64 x 1 = IntKind.i64.wrap ((BitVec.ofInt 64 x &&& BitVec.ofInt 64 1).toNat : Int) := rfl
  rw [e]
  rcases h with h | h <;> rw [h]
  · exact .inl (by decide)
  · exact .inr (by decide)
set_option maxHeartbeats 40000000 in
set_option maxRecDepth 100000 in
theorem tables_walk (n : Nat) (A : Option Addr) (c : Nat) (w : World) (hn : n ≤ 9223372036854775807) (hS : Steps w A n) :
    Calls Try.prog 6 #[.slice A n c] w fun e w' => e = .returned (.bool true) ∧ Ex (fun _ => False) w w' := by
  have HS := Aside0.mk hS
  clear hS
  by_cases h400 : 400 < n
  · have e1 : decide ((n : Int) > 400) = true := by simp; omega
    go_enter Try.func6, Try.ntmps6
    go_wp2_with fail
    refine (new_calls _).mono ?_
    rintro e w1 ⟨rfl, rfl⟩
    go_wp2_with fail
    refine (new_calls _).mono ?_
    rintro e w1 ⟨rfl, rfl⟩
    go_wp2_with fail
    refine (lives_calls _).mono ?_
    rintro e w2 ⟨rfl, hx⟩
    have HX := Aside0.mk (((((((((((Ex.refl (fun _ => False) w).alloc _).alloc _).alloc _).alloc _).alloc _).alloc _).alloc _).alloc _).alloc _).alloc _ |>.trans hx (fun _ h => h.elim))
    clear hx
    go_wp2
    go_ret
    exact ⟨rfl, HX.out⟩
  have e1 : decide ((n : Int) > 400) = false := by simp; omega
  go_enter Try.func6, Try.ntmps6
  go_wp2_with fail
  refine (new_calls _).mono ?_
  rintro e w1 ⟨rfl, rfl⟩
  go_wp2_with fail
  refine (new_calls _).mono ?_
  rintro e w1 ⟨rfl, rfl⟩
  go_wp2_with fail
  have hx2 : Ex (fun _ => False) (((w.alloc (.map #[] 0)).alloc (.map #[] 0)).alloc (.cells #[.map (some w.heap.size), .map (some (w.heap.size + 1)), .int .i64 0] 66)) ((((((w.alloc (.map #[] 0)).alloc (.map #[] 0)).alloc (.cells #[.map (some w.heap.size), .map (some (w.heap.size + 1)), .int .i64 0] 66)).alloc (.map #[] 0)).alloc (.map #[] 0)).alloc (.cells #[.map (some (w.heap.size + 1 + 1 + 1)), .map (some (w.heap.size + 1 + 1 + 1 + 1)), .int .i64 0] 66)) := (((Ex.refl _ _).alloc _).alloc _).alloc _
  have hx6 : Ex (fun _ => False) ((((((w.alloc (.map #[] 0)).alloc (.map #[] 0)).alloc (.cells #[.map (some w.heap.size), .map (some (w.heap.size + 1)), .int .i64 0] 66)).alloc (.map #[] 0)).alloc (.map #[] 0)).alloc (.cells #[.map (some (w.heap.size + 1 + 1 + 1)), .map (some (w.heap.size + 1 + 1 + 1 + 1)), .int .i64 0] 66)) ((((((((((w.alloc (.map #[] 0)).alloc (.map #[] 0)).alloc (.cells #[.map (some w.heap.size), .map (some (w.heap.size + 1)), .int .i64 0] 66)).alloc (.map #[] 0)).alloc (.map #[] 0)).alloc (.cells #[.map (some (w.heap.size + 1 + 1 + 1)), .map (some (w.heap.size + 1 + 1 + 1 + 1)), .int .i64 0] 66)).alloc (.cells #[.pointer (some ⟨w.heap.size + 2, 0, none⟩), .pointer (some ⟨w.heap.size + 1 + 1 + 1 + 2, 0, none⟩)] 51)).alloc (.cells #[.slice none 0 0] 55)).alloc (.cells #[.slice none 0 0] 55)).alloc (.cells #[.pointer (some ⟨w.heap.size + 1 + 1 + 1 + 1 + 1 + 1 + 1, 0, none⟩), .pointer (some ⟨w.heap.size + 1 + 1 + 1 + 1 + 1 + 1 + 1 + 1, 0, none⟩)] 56)) := ((((Ex.refl _ _).alloc _).alloc _).alloc _).alloc _
  have hx0 : Ex (fun _ => False) w (((w.alloc (.map #[] 0)).alloc (.map #[] 0)).alloc (.cells #[.map (some w.heap.size), .map (some (w.heap.size + 1)), .int .i64 0] 66)) := (((Ex.refl _ _).alloc _).alloc _).alloc _
  have ht0 := ((tab_new w).bound.ex0 hx2).ex0 hx6
  have ht1 := ((tab_new (((w.alloc (.map #[] 0)).alloc (.map #[] 0)).alloc (.cells #[.map (some w.heap.size), .map (some (w.heap.size + 1)), .int .i64 0] 66))).bound.ex0 (w1 := ((((w.alloc (.map #[] 0)).alloc (.map #[] 0)).alloc (.cells #[.map (some w.heap.size), .map (some (w.heap.size + 1)), .int .i64 0] 66)).alloc (.map #[] 0)).alloc (.map #[] 0) |>.alloc (.cells #[.map (some (((w.alloc (.map #[] 0)).alloc (.map #[] 0)).alloc (.cells #[.map (some w.heap.size), .map (some (w.heap.size + 1)), .int .i64 0] 66)).heap.size), .map (some ((((w.alloc (.map #[] 0)).alloc (.map #[] 0)).alloc (.cells #[.map (some w.heap.size), .map (some (w.heap.size + 1)), .int .i64 0] 66)).heap.size + 1)), .int .i64 0] 66)) (Ex.refl _ _))
  simp only [World.size_alloc] at ht0 ht1
  have ht1 := ht1.ex0 hx6
  have b3 := blk_alloc (blk_alloc (blk_alloc (blk_new1 ((((((w.alloc (.map #[] 0)).alloc (.map #[] 0)).alloc (.cells #[.map (some w.heap.size), .map (some (w.heap.size + 1)), .int .i64 0] 66)).alloc (.map #[] 0)).alloc (.map #[] 0)).alloc (.cells #[.map (some (w.heap.size + 1 + 1 + 1)), .map (some (w.heap.size + 1 + 1 + 1 + 1)), .int .i64 0] 66)) (.cells #[.pointer (some ⟨w.heap.size + 2, 0, none⟩), .pointer (some ⟨w.heap.size + 1 + 1 + 1 + 2, 0, none⟩)] 51)) (.cells #[.slice none 0 0] 55)) (.cells #[.slice none 0 0] 55)) (.cells #[.pointer (some ⟨w.heap.size + 1 + 1 + 1 + 1 + 1 + 1 + 1, 0, none⟩), .pointer (some ⟨w.heap.size + 1 + 1 + 1 + 1 + 1 + 1 + 1 + 1, 0, none⟩)] 56)
  have c0 := blk_alloc (blk_alloc (blk_new1 (((((((w.alloc (.map #[] 0)).alloc (.map #[] 0)).alloc (.cells #[.map (some w.heap.size), .map (some (w.heap.size + 1)), .int .i64 0] 66)).alloc (.map #[] 0)).alloc (.map #[] 0)).alloc (.cells #[.map (some (w.heap.size + 1 + 1 + 1)), .map (some (w.heap.size + 1 + 1 + 1 + 1)), .int .i64 0] 66)).alloc (.cells #[.pointer (some ⟨w.heap.size + 2, 0, none⟩), .pointer (some ⟨w.heap.size + 1 + 1 + 1 + 2, 0, none⟩)] 51)) (.cells #[.slice none 0 0] 55)) (.cells #[.slice none 0 0] 55)) (.cells #[.pointer (some ⟨w.heap.size + 1 + 1 + 1 + 1 + 1 + 1 + 1, 0, none⟩), .pointer (some ⟨w.heap.size + 1 + 1 + 1 + 1 + 1 + 1 + 1 + 1, 0, none⟩)] 56)
  have c1 := blk_alloc (blk_new1 ((((((((w.alloc (.map #[] 0)).alloc (.map #[] 0)).alloc (.cells #[.map (some w.heap.size), .map (some (w.heap.size + 1)), .int .i64 0] 66)).alloc (.map #[] 0)).alloc (.map #[] 0)).alloc (.cells #[.map (some (w.heap.size + 1 + 1 + 1)), .map (some (w.heap.size + 1 + 1 + 1 + 1)), .int .i64 0] 66)).alloc (.cells #[.pointer (some ⟨w.heap.size + 2, 0, none⟩), .pointer (some ⟨w.heap.size + 1 + 1 + 1 + 2, 0, none⟩)] 51)).alloc (.cells #[.slice none 0 0] 55)) (.cells #[.slice none 0 0] 55)) (.cells #[.pointer (some ⟨w.heap.size + 1 + 1 + 1 + 1 + 1 + 1 + 1, 0, none⟩), .pointer (some ⟨w.heap.size + 1 + 1 + 1 + 1 + 1 + 1 + 1 + 1, 0, none⟩)] 56)
  have b4 := blk_new1 (((((((((w.alloc (.map #[] 0)).alloc (.map #[] 0)).alloc (.cells #[.map (some w.heap.size), .map (some (w.heap.size + 1)), .int .i64 0] 66)).alloc (.map #[] 0)).alloc (.map #[] 0)).alloc (.cells #[.map (some (w.heap.size + 1 + 1 + 1)), .map (some (w.heap.size + 1 + 1 + 1 + 1)), .int .i64 0] 66)).alloc (.cells #[.pointer (some ⟨w.heap.size + 2, 0, none⟩), .pointer (some ⟨w.heap.size + 1 + 1 + 1 + 2, 0, none⟩)] 51)).alloc (.cells #[.slice none 0 0] 55)).alloc (.cells #[.slice none 0 0] 55)) (.cells #[.pointer (some ⟨w.heap.size + 1 + 1 + 1 + 1 + 1 + 1 + 1, 0, none⟩), .pointer (some ⟨w.heap.size + 1 + 1 + 1 + 1 + 1 + 1 + 1 + 1, 0, none⟩)] 56)
  have hsz : ((((((((((w.alloc (.map #[] 0)).alloc (.map #[] 0)).alloc (.cells #[.map (some w.heap.size), .map (some (w.heap.size + 1)), .int .i64 0] 66)).alloc (.map #[] 0)).alloc (.map #[] 0)).alloc (.cells #[.map (some (w.heap.size + 1 + 1 + 1)), .map (some (w.heap.size + 1 + 1 + 1 + 1)), .int .i64 0] 66)).alloc (.cells #[.pointer (some ⟨w.heap.size + 2, 0, none⟩), .pointer (some ⟨w.heap.size + 1 + 1 + 1 + 2, 0, none⟩)] 51)).alloc (.cells #[.slice none 0 0] 55)).alloc (.cells #[.slice none 0 0] 55)).alloc (.cells #[.pointer (some ⟨w.heap.size + 1 + 1 + 1 + 1 + 1 + 1 + 1, 0, none⟩), .pointer (some ⟨w.heap.size + 1 + 1 + 1 + 1 + 1 + 1 + 1 + 1, 0, none⟩)] 56)).heap.size = w.heap.size + 1 + 1 + 1 + 1 + 1 + 1 + 1 + 1 + 1 + 1 := by simp only [World.size_alloc]
  simp only [World.size_alloc] at b3 b4 c0 c1
  have HSTART := Aside0.mk (show TW w (w.heap.size + 1 + 1 + 1 + 1 + 1 + 1) (w.heap.size + 1 + 1 + 1 + 1 + 1 + 1 + 1 + 1 + 1) (w.heap.size + 2) (w.heap.size + 1 + 1 + 1 + 1 + 1 + 1 + 1) (w.heap.size + 1 + 1 + 1 + 2) (w.heap.size + 1 + 1 + 1 + 1 + 1 + 1 + 1 + 1) 0 (fun b => (w.heap.size ≤ b ∧ b < w.heap.size + 1 + 1 + 1) ∨ b = w.heap.size + 1 + 1 + 1 + 1 + 1 + 1 + 1) (fun b => (w.heap.size + 1 + 1 + 1 ≤ b ∧ b < w.heap.size + 1 + 1 + 1 + 1 + 1 + 1) ∨ b = w.heap.size + 1 + 1 + 1 + 1 + 1 + 1 + 1 + 1) ((((((((((w.alloc (.map #[] 0)).alloc (.map #[] 0)).alloc (.cells #[.map (some w.heap.size), .map (some (w.heap.size + 1)), .int .i64 0] 66)).alloc (.map #[] 0)).alloc (.map #[] 0)).alloc (.cells #[.map (some (w.heap.size + 1 + 1 + 1)), .map (some (w.heap.size + 1 + 1 + 1 + 1)), .int .i64 0] 66)).alloc (.cells #[.pointer (some ⟨w.heap.size + 2, 0, none⟩), .pointer (some ⟨w.heap.size + 1 + 1 + 1 + 2, 0, none⟩)] 51)).alloc (.cells #[.slice none 0 0] 55)).alloc (.cells #[.slice none 0 0] 55)).alloc (.cells #[.pointer (some ⟨w.heap.size + 1 + 1 + 1 + 1 + 1 + 1 + 1, 0, none⟩), .pointer (some ⟨w.heap.size + 1 + 1 + 1 + 1 + 1 + 1 + 1 + 1, 0, none⟩)] 56)) from
    { ex := (hx0.trans hx2 (fun _ h => h.elim)).trans hx6 (fun _ h => h.elim), b3 := b3, b4 := b4,
      p0 := pair_start ht0 (fun b hb => ⟨hb.1, by rw [hsz]; omega⟩) c0 (by omega) (by omega),
      p1 := pair_start ht1 (fun b hb => ⟨by omega, by rw [hsz]; omega⟩) c1 (by omega) (by omega),
      apart := fun b h1 h2 => by rcases h1 with h1 | h1 <;> rcases h2 with h2 | h2 <;> omega,
      s0 := fun b hb => by rw [hsz]; rcases hb with hb | hb <;> omega, s1 := fun b hb => by rw [hsz]; rcases hb with hb | hb <;> omega, lo := by omega })
  clear hx0 hx2 hx6 ht0 ht1 b3 b4 c0 c1 hsz e1
  have HN4 := Aside0.mk (show n ≤ 400 by omega)
  go_loopg [5] n (fun m v5 wr => ∃ (i g0 h0 g1 h1 : Nat) (S0 S1 : Nat → Prop), v5 = .int .i64 i ∧ Aside0 (i + m = n) ∧ Aside0 (TW w (w.heap.size + 1 + 1 + 1 + 1 + 1 + 1) (w.heap.size + 1 + 1 + 1 + 1 + 1 + 1 + 1 + 1 + 1) g0 h0 g1 h1 i S0 S1 wr))
  case atStart =>
    exact ⟨0, _, _, _, _, _, _, rfl, ⟨by omega⟩, HSTART⟩
  case round =>
    clear HSTART
    obtain ⟨i, g0, h0, g1, h1, S0, S1, rfl, HM, HTW⟩ := hrel
    by_cases hi : i < n
    · obtain ⟨ad, s, hA, hsg, hsb, hs0, hsj⟩ := HS.out i hi
      have HSG := Aside0.mk hsg
      have hcell : ∀ (p : Addr) (v : Value), p.block = (ad.add (i * 13)).block → w.cell? p = some v → wr.cell? p = some v := by
        intro p v hp hv
        simp only [World.cell?] at hv ⊢
        rw [hp] at hv ⊢
        rw [HTW.out.ex.block _ hsb (fun h => h)]
        exact hv
      have s0 := hcell _ _ rfl hs0
      have s1 := hcell ⟨(ad.add (i * 13)).block, (ad.add (i * 13)).off + 1, none⟩ _ rfl (hsj 1 _ (by decide) rfl)
      have s2 := hcell ⟨(ad.add (i * 13)).block, (ad.add (i * 13)).off + 2, none⟩ _ rfl (hsj 2 _ (by decide) rfl)
      have s3 := hcell ⟨(ad.add (i * 13)).block, (ad.add (i * 13)).off + 3, none⟩ _ rfl (hsj 3 _ (by decide) rfl)
      have s4 := hcell ⟨(ad.add (i * 13)).block, (ad.add (i * 13)).off + 4, none⟩ _ rfl (hsj 4 _ (by decide) rfl)
      have s5 := hcell ⟨(ad.add (i * 13)).block, (ad.add (i * 13)).off + 5, none⟩ _ rfl (hsj 5 _ (by decide) rfl)
      have s6 := hcell ⟨(ad.add (i * 13)).block, (ad.add (i * 13)).off + 6, none⟩ _ rfl (hsj 6 _ (by decide) rfl)
      have s7 := hcell ⟨(ad.add (i * 13)).block, (ad.add (i * 13)).off + 7, none⟩ _ rfl (hsj 7 _ (by decide) rfl)
      have s8 := hcell ⟨(ad.add (i * 13)).block, (ad.add (i * 13)).off + 8, none⟩ _ rfl (hsj 8 _ (by decide) rfl)
      have s9 := hcell ⟨(ad.add (i * 13)).block, (ad.add (i * 13)).off + 9, none⟩ _ rfl (hsj 9 _ (by decide) rfl)
      have s10 := hcell ⟨(ad.add (i * 13)).block, (ad.add (i * 13)).off + 10, none⟩ _ rfl (hsj 10 _ (by decide) rfl)
      have s11 := hcell ⟨(ad.add (i * 13)).block, (ad.add (i * 13)).off + 11, none⟩ _ rfl (hsj 11 _ (by decide) rfl)
      have s12 := hcell ⟨(ad.add (i * 13)).block, (ad.add (i * 13)).off + 12, none⟩ _ rfl (hsj 12 _ (by decide) rfl)
      have HAE := Aside0.mk hA
      have HIN := Aside0.mk hi
      have hii : (i : Int) < (n : Int) := by omega
      have hi0 : (0 : Int) ≤ (i : Int) := by omega
      have hi4 : i < 400 := by have := HN4.out; omega
      subst hA
      clear hcell hsg hsb hs0 hsj
      rcases and1 s.on with hk | hk
      · go_upto_if 50 with (fail)
        have HX8 := Aside0.mk ((Ex.refl (fun _ => False) wr).alloc (.cells #[.int .i64 s.how, .int .i64 s.on, .int .i64 s.leave, .int .u8 s.x.f0, .int .i64 s.x.f1, .string s.x.f2, .slice s.A s.x.f3.length s.c, .int .i64 s.x.f4, .int .u8 s.y.f0, .int .i64 s.y.f1, .string s.y.f2, .slice s.B s.y.f3.length s.d, .int .i64 s.y.f4] 58))
        have HS8 := Aside0.mk (blk_new1 wr (.cells #[.int .i64 s.how, .int .i64 s.on, .int .i64 s.leave, .int .u8 s.x.f0, .int .i64 s.x.f1, .string s.x.f2, .slice s.A s.x.f3.length s.c, .int .i64 s.x.f4, .int .u8 s.y.f0, .int .i64 s.y.f1, .string s.y.f2, .slice s.B s.y.f3.length s.d, .int .i64 s.y.f4] 58))
        clear s0 s1 s2 s3 s4 s5 s6 s7 s8 s9 s10 s11 s12
        have HL3 := Aside0.mk (And.intro (lt_of_blk HTW.out.b3) (lt_of_blk HTW.out.b4))
        generalize (wr.alloc (.cells #[.int .i64 s.how, .int .i64 s.on, .int .i64 s.leave, .int .u8 s.x.f0, .int .i64 s.x.f1, .string s.x.f2, .slice s.A s.x.f3.length s.c, .int .i64 s.x.f4, .int .u8 s.y.f0, .int .i64 s.y.f1, .string s.y.f2, .slice s.B s.y.f3.length s.d, .int .i64 s.y.f4] 58)) = W8 at HX8 HS8 ⊢
        go_cut [] from 50 to 68 (fun wx => ∃ (gm hm : Nat) (Sm : Nat → Prop), Aside0 (Ex (fun b => b = w.heap.size + 1 + 1 + 1 + 1 + 1 + 1 ∨ b = w.heap.size + 1 + 1 + 1 + 1 + 1 + 1 + 1 + 1 + 1) W8 wx) ∧ Aside0 (wx.heap[w.heap.size + 1 + 1 + 1 + 1 + 1 + 1]? = some (.cells #[.pointer (some ⟨gm, 0, none⟩), .pointer (some ⟨g1, 0, none⟩)] 51 (0, 0))) ∧ Aside0 (wx.heap[w.heap.size + 1 + 1 + 1 + 1 + 1 + 1 + 1 + 1 + 1]? = some (.cells #[.pointer (some ⟨hm, 0, none⟩), .pointer (some ⟨h1, 0, none⟩)] 56 (0, 0))) ∧ Aside0 (Pair wx w.heap.size (fun b => b < w.heap.size) Sm gm hm i) ∧ Aside0 (∀ b, Sm b → ¬ S1 b ∧ w.heap.size ≤ b ∧ b < wx.heap.size ∧ b ≠ w.heap.size + 1 + 1 + 1 + 1 + 1 + 1 ∧ b ≠ w.heap.size + 1 + 1 + 1 + 1 + 1 + 1 + 1 + 1 + 1 ∧ b ≠ wr.heap.size))
        case first =>
          by_cases h4 : s.how = 4
          · have e4 : (s.how == 4) = true := by simpa using h4
            have HH4 := Aside0.mk h4
            clear h4
            have tb := HX8.out.blk HTW.out.b3 (fun h => h)
            have t0 := (blk_cell tb 0).trans rfl
            have tf0 := blk_frozen tb 0
            have t1 := (blk_cell tb 1).trans rfl
            have tf1 := blk_frozen tb 1
            have tl := lt_of_blk tb
            go_wp2_with fail
            refine (copy_pair (HTW.out.p1.ex0 HX8.out)).mono ?_
            rintro e W9 ⟨g2, mb2, ob2, rows2, came, u, l, rfl, hx9, hT9, hR9, hrel9, hc9, hl9, hsh9, hsu9⟩
            have HX9 := Aside0.mk (HX8.out.trans hx9 (fun _ h => h.elim))
            have HX89 := Aside0.mk hx9
            have HT9 := Aside0.mk hT9
            have HR9 := Aside0.mk hR9
            have HC9 := Aside0.mk (And.intro hrel9 (And.intro hc9 (And.intro hl9 (And.intro hsh9 hsu9))))
            clear hx9 hT9 hR9 hrel9 hc9 hl9 hsh9 hsu9
            clear tb tl t0 tf0 t1 tf1
            have tb := HX9.out.blk HTW.out.b3 (fun h => h)
            have t0 := (blk_cell tb 0).trans rfl
            have tf0 := blk_frozen tb 0
            have t1 := (blk_cell tb 1).trans rfl
            have tf1 := blk_frozen tb 1
            have tl := lt_of_blk tb
            have rb := HX9.out.blk HTW.out.b4 (fun h => h)
            have r0 := (blk_cell rb 0).trans rfl
            have rf0 := blk_frozen rb 0
            have r1 := (blk_cell rb 1).trans rfl
            have rf1 := blk_frozen rb 1
            have rl := lt_of_blk rb
            go_wp2_with fail
            have hxa : Ex (fun b => b = w.heap.size + 1 + 1 + 1 + 1 + 1 + 1) W9 (W9.setCell ⟨w.heap.size + 1 + 1 + 1 + 1 + 1 + 1, 0, none⟩ (.pointer (some ⟨g2, 0, none⟩))) := (Ex.refl (fun b => b = w.heap.size + 1 + 1 + 1 + 1 + 1 + 1) W9).set (p := ⟨w.heap.size + 1 + 1 + 1 + 1 + 1 + 1, 0, none⟩) (.inl rfl) _
            have HRA := Aside0.mk (HR9.out.ex hxa (fun e => (HTW.out.s1 _ HC9.out.2.2.2.1).2.2.1 e) (fun b hb e => (HTW.out.s1 b (HC9.out.2.2.2.2 b e.symm)).2.2.1 hb) (fun b hb e => by have := HTW.out.lo.1; omega))
            have HTA := Aside0.mk (HT9.out.ex hxa (fun b hb e => by have := HL3.out.1; have := hb.1; have := HX8.out.size; omega))
            have HB3 := Aside0.mk (show (W9.setCell ⟨w.heap.size + 1 + 1 + 1 + 1 + 1 + 1, 0, none⟩ (.pointer (some ⟨g2, 0, none⟩))).heap[w.heap.size + 1 + 1 + 1 + 1 + 1 + 1]? = some (.cells #[.pointer (some ⟨g2, 0, none⟩), .pointer (some ⟨g1, 0, none⟩)] 51 (0, 0)) from blk_put (HX9.out.blk HTW.out.b3 (fun h => h)) 0 _ rfl)
            have HB4 := Aside0.mk (hxa.blk (HX9.out.blk HTW.out.b4 (fun h => h)) (fun e => HTW.out.lo.2.2 e.symm))
            have HPA := Aside0.mk hxa
            generalize (W9.setCell ⟨w.heap.size + 1 + 1 + 1 + 1 + 1 + 1, 0, none⟩ (.pointer (some ⟨g2, 0, none⟩))) = WA at hxa HTA HRA HB3 HB4 HPA ⊢
            clear tb tl t0 tf0 t1 tf1
            clear rb rl r0 rf0 r1 rf1
            clear hxa
            have rb := HB4.out
            have r0 := (blk_cell rb 0).trans rfl
            have rf0 := blk_frozen rb 0
            have r1 := (blk_cell rb 1).trans rfl
            have rf1 := blk_frozen rb 1
            have rl := lt_of_blk rb
            have HL9 := Aside0.mk (And.intro (lt_of_blk HB3.out) (And.intro (lt_of_blk HB4.out) HPA.out.size))
            have HSZ9 := Aside0.mk (And.intro HX89.out.size HX8.out.size)
            go_wp2_with fail
            refine (rcopy_calls _ HRA.out (by have := HC9.out.2.2.1; omega) (by have := HX9.out.size; have := HL9.out.2.2; omega) (fun _ h => h)).mono ?_
            rintro e WB ⟨h2, u2, rfl, hR2, hh2, hu2, hxb⟩
            have HR2 := Aside0.mk hR2
            have HH2 := Aside0.mk (And.intro hh2 hu2)
            have HXB := Aside0.mk hxb
            clear hR2 hh2 hu2 hxb
            clear rb rl r0 rf0 r1 rf1
            have tb := HXB.out.blk HB3.out (fun h => h)
            have t0 := (blk_cell tb 0).trans rfl
            have tf0 := blk_frozen tb 0
            have t1 := (blk_cell tb 1).trans rfl
            have tf1 := blk_frozen tb 1
            have tl := lt_of_blk tb
            have rb := HXB.out.blk HB4.out (fun h => h)
            have r0 := (blk_cell rb 0).trans rfl
            have rf0 := blk_frozen rb 0
            have r1 := (blk_cell rb 1).trans rfl
            have rf1 := blk_frozen rb 1
            have rl := lt_of_blk rb
            have hxc : Ex (fun b => b = w.heap.size + 1 + 1 + 1 + 1 + 1 + 1 + 1 + 1 + 1) WB (WB.setCell ⟨w.heap.size + 1 + 1 + 1 + 1 + 1 + 1 + 1 + 1 + 1, 0, none⟩ (.pointer (some ⟨h2, 0, none⟩))) := (Ex.refl (fun b => b = w.heap.size + 1 + 1 + 1 + 1 + 1 + 1 + 1 + 1 + 1) WB).set (p := ⟨w.heap.size + 1 + 1 + 1 + 1 + 1 + 1 + 1 + 1 + 1, 0, none⟩) (.inl rfl) _
            have HB3c := Aside0.mk (hxc.blk (HXB.out.blk HB3.out (fun h => h)) (fun e => HTW.out.lo.2.2 e))
            have HB4c := Aside0.mk (show (WB.setCell ⟨w.heap.size + 1 + 1 + 1 + 1 + 1 + 1 + 1 + 1 + 1, 0, none⟩ (.pointer (some ⟨h2, 0, none⟩))).heap[w.heap.size + 1 + 1 + 1 + 1 + 1 + 1 + 1 + 1 + 1]? = some (.cells #[.pointer (some ⟨h2, 0, none⟩), .pointer (some ⟨h1, 0, none⟩)] 56 (0, 0)) from blk_put (HXB.out.blk HB4.out (fun h => h)) 0 _ rfl)
            have HXC := Aside0.mk hxc
            clear hxc
            go_wp2_with fail
            go_meet
            have hn4 : ∀ b, W8.heap.size ≤ b → b ≠ w.heap.size + 1 + 1 + 1 + 1 + 1 + 1 ∧ b ≠ w.heap.size + 1 + 1 + 1 + 1 + 1 + 1 + 1 + 1 + 1 := fun b hb => by have h1 := HL3.out; have h2 := HX8.out.size; omega
            have hTC := (HTA.out.ex0 HXB.out).ex HXC.out (fun b hb e => (hn4 b hb.1).2 e)
            have hRC := HR2.out.ex HXC.out (fun e => (hn4 _ (by have := HH2.out.1; have := HL9.out.2.2; have := HSZ9.out; omega)).2 e) (fun b hb e => (hn4 b (by have := HH2.out.2 b e.symm; have := HL9.out.2.2; have := HSZ9.out; omega)).2 hb) (fun b hb e => by have := HTW.out.lo.2.1; omega)
            have hsz := HXB.out.size
            have hsz2 := HXC.out.size
            refine ⟨g2, h2, _, ⟨(((HX89.out.mono (S2 := fun b => b = w.heap.size + 1 + 1 + 1 + 1 + 1 + 1 ∨ b = w.heap.size + 1 + 1 + 1 + 1 + 1 + 1 + 1 + 1 + 1) (fun _ h => h.elim)).trans HPA.out (fun b hb => .inl (.inl hb))).trans HXB.out (fun _ h => h.elim)).trans HXC.out (fun b hb => .inl (.inr hb))⟩, HB3c, HB4c, ⟨rcopy_pair (w := W9) (w0 := W8) (by have := (HTW.out.ex.trans HX8.out (fun _ h => h.elim)).size; exact this) hTC hRC HC9.out.1 HC9.out.2.1 HC9.out.2.2.1 (by have := HH2.out.1; have := HL9.out.2.2; omega) (fun b hb => by have := HH2.out.2 b hb; have := HL9.out.2.2; omega) HSZ9.out.1 (by have := HL9.out.2.2; omega)⟩, ⟨fun b hb => ⟨fun h => by have := (HTW.out.s1 b h).2.1; have h1 := HX8.out.size; have := hb.1; omega, by have h1 := (HTW.out.ex.trans HX8.out (fun _ h => h.elim)).size; have := hb.1; omega, hb.2, (hn4 b hb.1).1, (hn4 b hb.1).2, by have h1 := lt_of_blk HS8.out; have := hb.1; omega⟩⟩⟩
          · have e4 : (s.how == 4) = false := by simpa using h4
            clear h4
            go_wp2_with fail
            go_meet
            exact ⟨g0, h0, S0, ⟨Ex.refl _ _⟩, ⟨HX8.out.blk HTW.out.b3 (fun h => h)⟩, ⟨HX8.out.blk HTW.out.b4 (fun h => h)⟩, ⟨HTW.out.p0.ex0 HX8.out⟩, ⟨fun b hb => ⟨HTW.out.apart b hb, (HTW.out.s0 b hb).1, Nat.lt_of_lt_of_le (HTW.out.s0 b hb).2.1 HX8.out.size, (HTW.out.s0 b hb).2.2.1, (HTW.out.s0 b hb).2.2.2, by have := (HTW.out.s0 b hb).2.1; omega⟩⟩⟩
        case rest =>
          obtain ⟨gm, hm, Sm, HX9, HB3, HB4, HPM, HSM⟩ := hcut
          obtain ⟨W9, rfl⟩ : ∃ W9, W9 = wc := ⟨_, rfl⟩
          have HPO := Aside0.mk ((HTW.out.p1.ex0 HX8.out).ex HX9.out (fun b hb e => by have h1 := HTW.out.s1 b hb; omega) (fun b hb e => by have h1 := HTW.out.lo; omega))
          have HS9 := Aside0.mk (HX9.out.blk HS8.out (fun e => by have h1 := HL3.out; omega))
          have HX19 := Aside0.mk ((HTW.out.ex.trans HX8.out (fun _ h => h.elim)).trans HX9.out (fun b hb => .inr (by have h1 := HTW.out.lo; omega)))
          have HAP := Aside0.mk (show ∀ b, S1 b → ¬ Sm b from fun b hb h => (HSM.out b h).1 hb)
          have HOS := Aside0.mk (show ∀ b, S1 b → w.heap.size ≤ b ∧ b < W9.heap.size ∧ b ≠ w.heap.size + 1 + 1 + 1 + 1 + 1 + 1 ∧ b ≠ w.heap.size + 1 + 1 + 1 + 1 + 1 + 1 + 1 + 1 + 1 from fun b hb => by have h1 := HTW.out.s1 b hb; have h2 := HX8.out.size; have h3 := HX9.out.size; omega)
          clear HX8 HS8 HX9
          go_upto_region 15 with (fail)
          refine region_byJ 21 [] (specL [Is (.int .i64 0), Is (.pointer (some ⟨w.heap.size + 1 + 1 + 1 + 1 + 1 + 1, 0, none⟩)), Is (.pointer (some ⟨gm, 0, none⟩)), Is (.int .i64 0), Is (.pointer (some ⟨w.heap.size + 1 + 1 + 1 + 1 + 1 + 1 + 1 + 1 + 1, 0, none⟩)), Is (.pointer (some ⟨hm, 0, none⟩)), Is (.agg #[.int .i64 s.how, .int .i64 s.on, .int .i64 s.leave, .int .u8 s.x.f0, .int .i64 s.x.f1, .string s.x.f2, .slice s.A s.x.f3.length s.c, .int .i64 s.x.f4, .int .u8 s.y.f0, .int .i64 s.y.f1, .string s.y.f2, .slice s.B s.y.f3.length s.d, .int .i64 s.y.f4]), Is (.bool true), Is (.bool false), Is (.bool false), Is (.int .i64 0), Is (.int .i64 1), Is (.pointer (some ⟨w.heap.size + 1 + 1 + 1 + 1 + 1 + 1, 1, none⟩)), Is (.pointer (some ⟨g1, 0, none⟩)), Is (.int .i64 0), Is (.int .i64 1), Is (.pointer (some ⟨w.heap.size + 1 + 1 + 1 + 1 + 1 + 1 + 1 + 1 + 1, 1, none⟩)), Is (.pointer (some ⟨h1, 0, none⟩)), Is (.bool true), Is (.bool false), Is (.bool false)]) ⟨7, 0, fun bp _ _ w1 => JS W9 w.heap.size (fun b => b < w.heap.size) Sm gm hm (i + 1) bp w1⟩ (show (0 : Nat) < 21 from by decide) (show (7 : Nat) ∉ [] ∧ (0 : Nat) ∉ [] from by decide) (by kernel_rfl) (by kernel_rfl) (Sm) (only 7 (Sm)) (fun _ _ h => h.2) (stabS_all 7 (stab_cons (stab_is _) (stab_cons (stab_is _) (stab_cons (stab_is _) (stab_cons (stab_is _) (stab_cons (stab_is _) (stab_cons (stab_is _) (stab_cons (stab_is _) (stab_cons (stab_is _) (stab_cons (stab_is _) (stab_cons (stab_is _) (stab_cons (stab_is _) (stab_cons (stab_is _) (stab_cons (stab_is _) (stab_cons (stab_is _) (stab_cons (stab_is _) (stab_cons (stab_is _) (stab_cons (stab_is _) (stab_cons (stab_is _) (stab_cons (stab_is _) (stab_cons (stab_is _) (stab_cons (stab_is _) (stab_nil)))))))))))))))))))))) (stabS_start (stabS_cons (fun _ => stabS_is _ _) (stabS_cons (fun _ => stabS_is _ _) (stabS_cons (fun _ => stabS_is _ _) (stabS_cons (fun _ => stabS_is _ _) (stabS_cons (fun _ => stabS_is _ _) (stabS_cons (fun _ => stabS_is _ _) (stabS_cons (fun _ => stabS_is _ _) (stabS_cons (fun h => absurd rfl h) (stabS_cons (fun _ => stabS_is _ _) (stabS_cons (fun _ => stabS_is _ _) (stabS_cons (fun _ => stabS_is _ _) (stabS_cons (fun _ => stabS_is _ _) (stabS_cons (fun _ => stabS_is _ _) (stabS_cons (fun _ => stabS_is _ _) (stabS_cons (fun _ => stabS_is _ _) (stabS_cons (fun _ => stabS_is _ _) (stabS_cons (fun _ => stabS_is _ _) (stabS_cons (fun _ => stabS_is _ _) (stabS_cons (fun _ => stabS_is _ _) (stabS_cons (fun _ => stabS_is _ _) (stabS_cons (fun _ => stabS_is _ _) (stabS_nil _ _ _)))))))))))))))))))))))) ?_ ?_ (⟨fun _ => (Ex.refl _ _).drew, fun h => by cases h⟩) ?_
          · intro i hi hnl
            obtain rfl | rfl | rfl | rfl | rfl | rfl | rfl | rfl | rfl | rfl | rfl | rfl | rfl | rfl | rfl | rfl | rfl | rfl | rfl | rfl | rfl : i = 0 ∨ i = 1 ∨ i = 2 ∨ i = 3 ∨ i = 4 ∨ i = 5 ∨ i = 6 ∨ i = 7 ∨ i = 8 ∨ i = 9 ∨ i = 10 ∨ i = 11 ∨ i = 12 ∨ i = 13 ∨ i = 14 ∨ i = 15 ∨ i = 16 ∨ i = 17 ∨ i = 18 ∨ i = 19 ∨ i = 20 := by omega
            · intro o ho ρ yl w1 hx hc hf hgl hp hb bp bq jv hJ hjp hjq
              simp only [List.getElem?_toArray, List.getElem?_cons_succ, List.getElem?_cons_zero, Option.some.injEq] at ho
              subst ho
              have hx := ((Ex.refl (Sm) W9).drew).trans hx (fun _ h => .inl h)
              have b7 := hb 7 (by kernel_rfl)
              clear hp hb
              refine wantL rfl ⟨.int .i64 0, w1, ?_, Ex.refl _ _, rfl, JS.keep _ rfl hJ⟩
              go_simp
            · intro o ho ρ yl w1 hx hc hf hgl hp hb bp bq jv hJ hjp hjq
              simp only [List.getElem?_toArray, List.getElem?_cons_succ, List.getElem?_cons_zero, Option.some.injEq] at ho
              subst ho
              have hx := ((Ex.refl (Sm) W9).drew).trans hx (fun _ h => .inl h)
              obtain ⟨v0, s0, e0, y0⟩ := hp 0 (by kernel_rfl)
              have e0 := e0 69 rfl
              obtain rfl : v0 = (.int .i64 0) := s0
              clear y0
              have b3 := hb 3 (by kernel_rfl)
              clear hp hb
              refine wantL rfl ⟨.pointer (some ⟨w.heap.size + 1 + 1 + 1 + 1 + 1 + 1, 0, none⟩), w1, ?_, Ex.refl _ _, rfl, JS.keep _ rfl hJ⟩
              go_simp
            · intro o ho ρ yl w1 hx hc hf hgl hp hb bp bq jv hJ hjp hjq
              simp only [List.getElem?_toArray, List.getElem?_cons_succ, List.getElem?_cons_zero, Option.some.injEq] at ho
              subst ho
              have hx := ((Ex.refl (Sm) W9).drew).trans hx (fun _ h => .inl h)
              obtain ⟨v1, s1, e1, y1⟩ := hp 1 (by kernel_rfl)
              have e1 := e1 70 rfl
              obtain rfl : v1 = (.pointer (some ⟨w.heap.size + 1 + 1 + 1 + 1 + 1 + 1, 0, none⟩)) := s1
              clear y1
              clear hp hb
              have hb := hx.blk HB3.out (fun e => by have := HSM.out _ e; omega)
              have c0 := (blk_cell hb 0).trans rfl
              have c1 := (blk_cell hb 1).trans rfl
              have cl := lt_of_blk hb
              refine wantL rfl ⟨.pointer (some ⟨gm, 0, none⟩), w1, ?_, Ex.refl _ _, rfl, JS.keep _ rfl hJ⟩
              go_simp
            · intro o ho ρ yl w1 hx hc hf hgl hp hb bp bq jv hJ hjp hjq
              simp only [List.getElem?_toArray, List.getElem?_cons_succ, List.getElem?_cons_zero, Option.some.injEq] at ho
              subst ho
              have hx := ((Ex.refl (Sm) W9).drew).trans hx (fun _ h => .inl h)
              have b7 := hb 7 (by kernel_rfl)
              clear hp hb
              refine wantL rfl ⟨.int .i64 0, w1, ?_, Ex.refl _ _, rfl, JS.keep _ rfl hJ⟩
              go_simp
            · intro o ho ρ yl w1 hx hc hf hgl hp hb bp bq jv hJ hjp hjq
              simp only [List.getElem?_toArray, List.getElem?_cons_succ, List.getElem?_cons_zero, Option.some.injEq] at ho
              subst ho
              have hx := ((Ex.refl (Sm) W9).drew).trans hx (fun _ h => .inl h)
              obtain ⟨v3, s3, e3, y3⟩ := hp 3 (by kernel_rfl)
              have e3 := e3 72 rfl
              obtain rfl : v3 = (.int .i64 0) := s3
              clear y3
              have b4 := hb 4 (by kernel_rfl)
              clear hp hb
              refine wantL rfl ⟨.pointer (some ⟨w.heap.size + 1 + 1 + 1 + 1 + 1 + 1 + 1 + 1 + 1, 0, none⟩), w1, ?_, Ex.refl _ _, rfl, JS.keep _ rfl hJ⟩
              go_simp
            · intro o ho ρ yl w1 hx hc hf hgl hp hb bp bq jv hJ hjp hjq
              simp only [List.getElem?_toArray, List.getElem?_cons_succ, List.getElem?_cons_zero, Option.some.injEq] at ho
              subst ho
              have hx := ((Ex.refl (Sm) W9).drew).trans hx (fun _ h => .inl h)
              obtain ⟨v4, s4, e4, y4⟩ := hp 4 (by kernel_rfl)
              have e4 := e4 73 rfl
              obtain rfl : v4 = (.pointer (some ⟨w.heap.size + 1 + 1 + 1 + 1 + 1 + 1 + 1 + 1 + 1, 0, none⟩)) := s4
              clear y4
              clear hp hb
              have hb := hx.blk HB4.out (fun e => by have := HSM.out _ e; omega)
              have c0 := (blk_cell hb 0).trans rfl
              have c1 := (blk_cell hb 1).trans rfl
              have cl := lt_of_blk hb
              refine wantL rfl ⟨.pointer (some ⟨hm, 0, none⟩), w1, ?_, Ex.refl _ _, rfl, JS.keep _ rfl hJ⟩
              go_simp
            · intro o ho ρ yl w1 hx hc hf hgl hp hb bp bq jv hJ hjp hjq
              simp only [List.getElem?_toArray, List.getElem?_cons_succ, List.getElem?_cons_zero, Option.some.injEq] at ho
              subst ho
              have hx := ((Ex.refl (Sm) W9).drew).trans hx (fun _ h => .inl h)
              have b6 := hb 6 (by kernel_rfl)
              clear hp hb
              have hb := hx.blk HS9.out (fun e => by have := HSM.out _ e; omega)
              have c0 := (blk_cell hb 0).trans rfl
              have c1 := (blk_cell hb 1).trans rfl
              have c2 := (blk_cell hb 2).trans rfl
              have c3 := (blk_cell hb 3).trans rfl
              have c4 := (blk_cell hb 4).trans rfl
              have c5 := (blk_cell hb 5).trans rfl
              have c6 := (blk_cell hb 6).trans rfl
              have c7 := (blk_cell hb 7).trans rfl
              have c8 := (blk_cell hb 8).trans rfl
              have c9 := (blk_cell hb 9).trans rfl
              have c10 := (blk_cell hb 10).trans rfl
              have c11 := (blk_cell hb 11).trans rfl
              have c12 := (blk_cell hb 12).trans rfl
              have cl := lt_of_blk hb
              refine wantL rfl ⟨.agg #[.int .i64 s.how, .int .i64 s.on, .int .i64 s.leave, .int .u8 s.x.f0, .int .i64 s.x.f1, .string s.x.f2, .slice s.A s.x.f3.length s.c, .int .i64 s.x.f4, .int .u8 s.y.f0, .int .i64 s.y.f1, .string s.y.f2, .slice s.B s.y.f3.length s.d, .int .i64 s.y.f4], w1, ?_, Ex.refl _ _, rfl, JS.keep _ rfl hJ⟩
              go_simp
            · intro o ho ρ yl w1 hx hc hf hgl hp hb bp bq jv hJ hjp hjq
              simp only [List.getElem?_toArray, List.getElem?_cons_succ, List.getElem?_cons_zero, Option.some.injEq] at ho
              subst ho
              have hx := ((Ex.refl (Sm) W9).drew).trans hx (fun _ h => .inl h)
              obtain ⟨v2, s2, e2, y2⟩ := hp 2 (by kernel_rfl)
              have e2 := e2 71 rfl
              obtain rfl : v2 = (.pointer (some ⟨gm, 0, none⟩)) := s2
              clear y2
              obtain ⟨v5, s5, e5, y5⟩ := hp 5 (by kernel_rfl)
              have e5 := e5 74 rfl
              obtain rfl : v5 = (.pointer (some ⟨hm, 0, none⟩)) := s5
              clear y5
              obtain ⟨v6, s6, e6, y6⟩ := hp 6 (by kernel_rfl)
              have e6 := e6 75 rfl
              obtain rfl : v6 = (.agg #[.int .i64 s.how, .int .i64 s.on, .int .i64 s.leave, .int .u8 s.x.f0, .int .i64 s.x.f1, .string s.x.f2, .slice s.A s.x.f3.length s.c, .int .i64 s.x.f4, .int .u8 s.y.f0, .int .i64 s.y.f1, .string s.y.f2, .slice s.B s.y.f3.length s.d, .int .i64 s.y.f4]) := s6
              clear y6
              clear hp hb
              refine wantR rfl ⟨22, #[.pointer (some ⟨gm, 0, none⟩), .pointer (some ⟨hm, 0, none⟩), .agg #[.int .i64 s.how, .int .i64 s.on, .int .i64 s.leave, .int .u8 s.x.f0, .int .i64 s.x.f1, .string s.x.f2, .slice s.A s.x.f3.length s.c, .int .i64 s.x.f4, .int .u8 s.y.f0, .int .i64 s.y.f1, .string s.y.f2, .slice s.B s.y.f3.length s.d, .int .i64 s.y.f4]], exec_call' Try.func22 (by kernel_rfl) rfl _ rfl (by simp [e2, e5, e6]) (hf 22), ?_⟩
              have hb0 := hJ.1 (hjp rfl)
              have hwx := HX19.out.trans hb0 (fun _ h => h.elim)
              refine (step_calls s.how s.on s.leave s.x s.y s.A s.B s.c s.d _ (HPM.out.ex0 hb0) (by omega) hwx.size (fun _ h => h) HSG.out.hc HSG.out.hd (ex_F hwx HSG.out.fk (fun _ _ h => h)) (ex_F hwx HSG.out.fv (fun _ _ h => h)) HSG.out.wx HSG.out.wy).mono ?_
              rintro e wq ⟨rfl, hxq, hpq⟩
              exact ⟨_, rfl, ex_the hxq, rfl, JS.did _ rfl hJ (hjp rfl) hxq hpq⟩
            · intro o ho ρ yl w1 hx hc hf hgl hp hb bp bq jv hJ hjp hjq
              simp only [List.getElem?_toArray, List.getElem?_cons_succ, List.getElem?_cons_zero, Option.some.injEq] at ho
              subst ho
              have hx := ((Ex.refl (Sm) W9).drew).trans hx (fun _ h => .inl h)
              obtain ⟨v7, s7, e7, y7⟩ := hp 7 (by kernel_rfl)
              have e7 := e7 76 rfl
              obtain rfl : v7 = (.bool true) := s7
              clear y7
              clear hp hb
              refine wantL rfl ⟨.bool false, w1, ?_, Ex.refl _ _, rfl, JS.keep _ rfl hJ⟩
              go_simp
            · intro o ho ρ yl w1 hx hc hf hgl hp hb bp bq jv hJ hjp hjq
              simp only [List.getElem?_toArray, List.getElem?_cons_succ, List.getElem?_cons_zero, Option.some.injEq] at ho
              subst ho
              have hx := ((Ex.refl (Sm) W9).drew).trans hx (fun _ h => .inl h)
              obtain ⟨v8, s8, e8, y8⟩ := hp 8 (by kernel_rfl)
              have e8 := e8 77 rfl
              obtain rfl : v8 = (.bool false) := s8
              clear y8
              obtain ⟨v7, s7, e7, y7⟩ := hp 7 (by kernel_rfl)
              have e7 := e7 76 rfl
              obtain rfl : v7 = (.bool true) := s7
              clear y7
              clear hp hb
              refine wantL rfl ⟨.bool false, w1, ?_, Ex.refl _ _, rfl, JS.keep _ rfl hJ⟩
              go_simp
            · intro o ho ρ yl w1 hx hc hf hgl hp hb bp bq jv hJ hjp hjq
              simp only [List.getElem?_toArray, List.getElem?_cons_succ, List.getElem?_cons_zero, Option.some.injEq] at ho
              subst ho
              have hx := ((Ex.refl (Sm) W9).drew).trans hx (fun _ h => .inl h)
              obtain ⟨v9, s9, e9, y9⟩ := hp 9 (by kernel_rfl)
              have e9 := e9 78 rfl
              obtain rfl : v9 = (.bool false) := s9
              have y9 := y9 rfl
              have b7 := hb 7 (by kernel_rfl)
              clear hp hb
              refine wantL (by simp [Region.wanted, y9]) ⟨.int .i64 0, w1, ?_, Ex.refl _ _, rfl, JS.keep _ rfl hJ⟩
              go_simp
            · intro o ho ρ yl w1 hx hc hf hgl hp hb bp bq jv hJ hjp hjq
              simp only [List.getElem?_toArray, List.getElem?_cons_succ, List.getElem?_cons_zero, Option.some.injEq] at ho
              subst ho
              have hx := ((Ex.refl (Sm) W9).drew).trans hx (fun _ h => .inl h)
              obtain ⟨v10, s10, e10, y10⟩ := hp 10 (by kernel_rfl)
              have e10 := e10 79 rfl
              obtain rfl : v10 = (.int .i64 0) := s10
              clear y10
              obtain ⟨v9, s9, e9, y9⟩ := hp 9 (by kernel_rfl)
              have e9 := e9 78 rfl
              obtain rfl : v9 = (.bool false) := s9
              have y9 := y9 rfl
              clear hp hb
              refine wantL (by simp [Region.wanted, y9]) ⟨.int .i64 1, w1, ?_, Ex.refl _ _, rfl, JS.keep _ rfl hJ⟩
              go_simp
              decide
            · intro o ho ρ yl w1 hx hc hf hgl hp hb bp bq jv hJ hjp hjq
              simp only [List.getElem?_toArray, List.getElem?_cons_succ, List.getElem?_cons_zero, Option.some.injEq] at ho
              subst ho
              have hx := ((Ex.refl (Sm) W9).drew).trans hx (fun _ h => .inl h)
              obtain ⟨v11, s11, e11, y11⟩ := hp 11 (by kernel_rfl)
              have e11 := e11 80 rfl
              obtain rfl : v11 = (.int .i64 1) := s11
              clear y11
              obtain ⟨v9, s9, e9, y9⟩ := hp 9 (by kernel_rfl)
              have e9 := e9 78 rfl
              obtain rfl : v9 = (.bool false) := s9
              have y9 := y9 rfl
              have b3 := hb 3 (by kernel_rfl)
              clear hp hb
              refine wantL (by simp [Region.wanted, y9]) ⟨.pointer (some ⟨w.heap.size + 1 + 1 + 1 + 1 + 1 + 1, 1, none⟩), w1, ?_, Ex.refl _ _, rfl, JS.keep _ rfl hJ⟩
              go_simp
            · intro o ho ρ yl w1 hx hc hf hgl hp hb bp bq jv hJ hjp hjq
              simp only [List.getElem?_toArray, List.getElem?_cons_succ, List.getElem?_cons_zero, Option.some.injEq] at ho
              subst ho
              have hx := ((Ex.refl (Sm) W9).drew).trans hx (fun _ h => .inl h)
              obtain ⟨v12, s12, e12, y12⟩ := hp 12 (by kernel_rfl)
              have e12 := e12 81 rfl
              obtain rfl : v12 = (.pointer (some ⟨w.heap.size + 1 + 1 + 1 + 1 + 1 + 1, 1, none⟩)) := s12
              clear y12
              obtain ⟨v9, s9, e9, y9⟩ := hp 9 (by kernel_rfl)
              have e9 := e9 78 rfl
              obtain rfl : v9 = (.bool false) := s9
              have y9 := y9 rfl
              clear hp hb
              have hb := hx.blk HB3.out (fun e => by have := HSM.out _ e; omega)
              have c0 := (blk_cell hb 0).trans rfl
              have c1 := (blk_cell hb 1).trans rfl
              have cl := lt_of_blk hb
              refine wantL (by simp [Region.wanted, y9]) ⟨.pointer (some ⟨g1, 0, none⟩), w1, ?_, Ex.refl _ _, rfl, JS.keep _ rfl hJ⟩
              go_simp
            · intro o ho ρ yl w1 hx hc hf hgl hp hb bp bq jv hJ hjp hjq
              simp only [List.getElem?_toArray, List.getElem?_cons_succ, List.getElem?_cons_zero, Option.some.injEq] at ho
              subst ho
              have hx := ((Ex.refl (Sm) W9).drew).trans hx (fun _ h => .inl h)
              obtain ⟨v9, s9, e9, y9⟩ := hp 9 (by kernel_rfl)
              have e9 := e9 78 rfl
              obtain rfl : v9 = (.bool false) := s9
              have y9 := y9 rfl
              have b7 := hb 7 (by kernel_rfl)
              clear hp hb
              refine wantL (by simp [Region.wanted, y9]) ⟨.int .i64 0, w1, ?_, Ex.refl _ _, rfl, JS.keep _ rfl hJ⟩
              go_simp
            · intro o ho ρ yl w1 hx hc hf hgl hp hb bp bq jv hJ hjp hjq
              simp only [List.getElem?_toArray, List.getElem?_cons_succ, List.getElem?_cons_zero, Option.some.injEq] at ho
              subst ho
              have hx := ((Ex.refl (Sm) W9).drew).trans hx (fun _ h => .inl h)
              obtain ⟨v14, s14, e14, y14⟩ := hp 14 (by kernel_rfl)
              have e14 := e14 83 rfl
              obtain rfl : v14 = (.int .i64 0) := s14
              clear y14
              obtain ⟨v9, s9, e9, y9⟩ := hp 9 (by kernel_rfl)
              have e9 := e9 78 rfl
              obtain rfl : v9 = (.bool false) := s9
              have y9 := y9 rfl
              clear hp hb
              refine wantL (by simp [Region.wanted, y9]) ⟨.int .i64 1, w1, ?_, Ex.refl _ _, rfl, JS.keep _ rfl hJ⟩
              go_simp
              decide
            · intro o ho ρ yl w1 hx hc hf hgl hp hb bp bq jv hJ hjp hjq
              simp only [List.getElem?_toArray, List.getElem?_cons_succ, List.getElem?_cons_zero, Option.some.injEq] at ho
              subst ho
              have hx := ((Ex.refl (Sm) W9).drew).trans hx (fun _ h => .inl h)
              obtain ⟨v15, s15, e15, y15⟩ := hp 15 (by kernel_rfl)
              have e15 := e15 84 rfl
              obtain rfl : v15 = (.int .i64 1) := s15
              clear y15
              obtain ⟨v9, s9, e9, y9⟩ := hp 9 (by kernel_rfl)
              have e9 := e9 78 rfl
              obtain rfl : v9 = (.bool false) := s9
              have y9 := y9 rfl
              have b4 := hb 4 (by kernel_rfl)
              clear hp hb
              refine wantL (by simp [Region.wanted, y9]) ⟨.pointer (some ⟨w.heap.size + 1 + 1 + 1 + 1 + 1 + 1 + 1 + 1 + 1, 1, none⟩), w1, ?_, Ex.refl _ _, rfl, JS.keep _ rfl hJ⟩
              go_simp
            · intro o ho ρ yl w1 hx hc hf hgl hp hb bp bq jv hJ hjp hjq
              simp only [List.getElem?_toArray, List.getElem?_cons_succ, List.getElem?_cons_zero, Option.some.injEq] at ho
              subst ho
              have hx := ((Ex.refl (Sm) W9).drew).trans hx (fun _ h => .inl h)
              obtain ⟨v16, s16, e16, y16⟩ := hp 16 (by kernel_rfl)
              have e16 := e16 85 rfl
              obtain rfl : v16 = (.pointer (some ⟨w.heap.size + 1 + 1 + 1 + 1 + 1 + 1 + 1 + 1 + 1, 1, none⟩)) := s16
              clear y16
              obtain ⟨v9, s9, e9, y9⟩ := hp 9 (by kernel_rfl)
              have e9 := e9 78 rfl
              obtain rfl : v9 = (.bool false) := s9
              have y9 := y9 rfl
              clear hp hb
              have hb := hx.blk HB4.out (fun e => by have := HSM.out _ e; omega)
              have c0 := (blk_cell hb 0).trans rfl
              have c1 := (blk_cell hb 1).trans rfl
              have cl := lt_of_blk hb
              refine wantL (by simp [Region.wanted, y9]) ⟨.pointer (some ⟨h1, 0, none⟩), w1, ?_, Ex.refl _ _, rfl, JS.keep _ rfl hJ⟩
              go_simp
            · intro o ho ρ yl w1 hx hc hf hgl hp hb bp bq jv hJ hjp hjq
              simp only [List.getElem?_toArray, List.getElem?_cons_succ, List.getElem?_cons_zero, Option.some.injEq] at ho
              subst ho
              have hx := ((Ex.refl (Sm) W9).drew).trans hx (fun _ h => .inl h)
              obtain ⟨v13, s13, e13, y13⟩ := hp 13 (by kernel_rfl)
              have e13 := e13 82 rfl
              obtain rfl : v13 = (.pointer (some ⟨g1, 0, none⟩)) := s13
              clear y13
              obtain ⟨v17, s17, e17, y17⟩ := hp 17 (by kernel_rfl)
              have e17 := e17 86 rfl
              obtain rfl : v17 = (.pointer (some ⟨h1, 0, none⟩)) := s17
              clear y17
              obtain ⟨v9, s9, e9, y9⟩ := hp 9 (by kernel_rfl)
              have e9 := e9 78 rfl
              obtain rfl : v9 = (.bool false) := s9
              have y9 := y9 rfl
              clear hp hb
              refine wantR (by simp [Region.wanted, y9]) ⟨23, #[.pointer (some ⟨g1, 0, none⟩), .pointer (some ⟨h1, 0, none⟩), .int .i64 0], exec_call' Try.func23 (by kernel_rfl) rfl _ rfl (by simp [e13, e17, hc]) (hf 23), ?_⟩
              refine (walk_pair 0 (HPO.out.ex hx HAP.out (fun b hb e => by have := (HSM.out b e).2.1; omega)) (by omega)).mono ?_
              rintro e wq ⟨rfl, hq⟩
              exact ⟨_, rfl, ex_only hq, rfl, JS.keep _ rfl (JS.grow hJ hq)⟩
            · intro o ho ρ yl w1 hx hc hf hgl hp hb bp bq jv hJ hjp hjq
              simp only [List.getElem?_toArray, List.getElem?_cons_succ, List.getElem?_cons_zero, Option.some.injEq] at ho
              subst ho
              have hx := ((Ex.refl (Sm) W9).drew).trans hx (fun _ h => .inl h)
              obtain ⟨v18, s18, e18, y18⟩ := hp 18 (by kernel_rfl)
              have e18 := e18 87 rfl
              obtain rfl : v18 = (.bool true) := s18
              clear y18
              obtain ⟨v9, s9, e9, y9⟩ := hp 9 (by kernel_rfl)
              have e9 := e9 78 rfl
              obtain rfl : v9 = (.bool false) := s9
              have y9 := y9 rfl
              clear hp hb
              refine wantL (by simp [Region.wanted, y9]) ⟨.bool false, w1, ?_, Ex.refl _ _, rfl, JS.keep _ rfl hJ⟩
              go_simp
            · intro o ho ρ yl w1 hx hc hf hgl hp hb bp bq jv hJ hjp hjq
              simp only [List.getElem?_toArray, List.getElem?_cons_succ, List.getElem?_cons_zero, Option.some.injEq] at ho
              subst ho
              have hx := ((Ex.refl (Sm) W9).drew).trans hx (fun _ h => .inl h)
              obtain ⟨v9, s9, e9, y9⟩ := hp 9 (by kernel_rfl)
              have e9 := e9 78 rfl
              obtain rfl : v9 = (.bool false) := s9
              clear y9
              obtain ⟨v19, s19, e19, y19⟩ := hp 19 (by kernel_rfl)
              have e19 := e19 88 rfl
              obtain rfl : v19 = (.bool false) := s19
              clear y19
              clear hp hb
              refine wantL rfl ⟨.bool false, w1, ?_, Ex.refl _ _, rfl, JS.keep _ rfl hJ⟩
              go_simp
          · intro i hil
            exact absurd hil (by simp)
          · intro xs w1 hx hs hJJ KQ hKK
            have s0 : xs 0 = (.int .i64 0) := hs 0 (by omega)
            have s1 : xs 1 = (.pointer (some ⟨w.heap.size + 1 + 1 + 1 + 1 + 1 + 1, 0, none⟩)) := hs 1 (by omega)
            have s2 : xs 2 = (.pointer (some ⟨gm, 0, none⟩)) := hs 2 (by omega)
            have s3 : xs 3 = (.int .i64 0) := hs 3 (by omega)
            have s4 : xs 4 = (.pointer (some ⟨w.heap.size + 1 + 1 + 1 + 1 + 1 + 1 + 1 + 1 + 1, 0, none⟩)) := hs 4 (by omega)
            have s5 : xs 5 = (.pointer (some ⟨hm, 0, none⟩)) := hs 5 (by omega)
            have s6 : xs 6 = (.agg #[.int .i64 s.how, .int .i64 s.on, .int .i64 s.leave, .int .u8 s.x.f0, .int .i64 s.x.f1, .string s.x.f2, .slice s.A s.x.f3.length s.c, .int .i64 s.x.f4, .int .u8 s.y.f0, .int .i64 s.y.f1, .string s.y.f2, .slice s.B s.y.f3.length s.d, .int .i64 s.y.f4]) := hs 6 (by omega)
            have s7 : xs 7 = (.bool true) := hs 7 (by omega)
            have s8 : xs 8 = (.bool false) := hs 8 (by omega)
            have s9 : xs 9 = (.bool false) := hs 9 (by omega)
            have s10 : xs 10 = (.int .i64 0) := hs 10 (by omega)
            have s11 : xs 11 = (.int .i64 1) := hs 11 (by omega)
            have s12 : xs 12 = (.pointer (some ⟨w.heap.size + 1 + 1 + 1 + 1 + 1 + 1, 1, none⟩)) := hs 12 (by omega)
            have s13 : xs 13 = (.pointer (some ⟨g1, 0, none⟩)) := hs 13 (by omega)
            have s14 : xs 14 = (.int .i64 0) := hs 14 (by omega)
            have s15 : xs 15 = (.int .i64 1) := hs 15 (by omega)
            have s16 : xs 16 = (.pointer (some ⟨w.heap.size + 1 + 1 + 1 + 1 + 1 + 1 + 1 + 1 + 1, 1, none⟩)) := hs 16 (by omega)
            have s17 : xs 17 = (.pointer (some ⟨h1, 0, none⟩)) := hs 17 (by omega)
            have s18 : xs 18 = (.bool true) := hs 18 (by omega)
            have s19 : xs 19 = (.bool false) := hs 19 (by omega)
            have s20 : xs 20 = (.bool false) := hs 20 (by omega)
            clear hs
            simp only [putSlots, dstOf, List.getElem?_toArray, List.getElem?_cons_succ, List.getElem?_cons_zero, Option.bind_some, List.setIfInBounds_toArray, List.set_cons_zero, List.set_cons_succ, List.drop_succ_cons, List.drop_zero]
            rw [s0, s1, s2, s3, s4, s5, s6, s7, s8, s9, s10, s11, s12, s13, s14, s15, s16, s17, s18, s19, s20]
            clear s0 s1 s2 s3 s4 s5 s6 s7 s8 s9 s10 s11 s12 s13 s14 s15 s16 s17 s18 s19 s20
            refine hKK _ _ ?_
            have hJJ := hJJ (show (7 : Nat) < 21 from by decide)
            have HX := Aside0.mk hx
            have HPJ := Aside0.mk (hJJ.2 rfl).2
            clear hx hKK hJJ
            go_wp2_with fail
            go_roundg (gk - 1)
            case measure => have := HM.out; omega
            case rel =>
              have hsz := HX.out.size
              have hpo := (HPO.out.ex HX.out HAP.out (fun b hb e => by have := (HSM.out b e).2.1; omega)).mono (fun b hb => hb) (Nat.le_succ i)
              have hsn : ∀ b, (fun b => Sm b ∨ (W9.heap.size ≤ b ∧ b < w1.heap.size)) b → w.heap.size ≤ b ∧ b < w1.heap.size ∧ b ≠ w.heap.size + 1 + 1 + 1 + 1 + 1 + 1 ∧ b ≠ w.heap.size + 1 + 1 + 1 + 1 + 1 + 1 + 1 + 1 + 1 := fun b hb => by have h1 := HX19.out.size; have h2 := lt_of_blk HB3.out; have h3 := lt_of_blk HB4.out; rcases hb with hb | hb; have := HSM.out b hb; omega; omega
              have hso : ∀ b, S1 b → w.heap.size ≤ b ∧ b < w1.heap.size ∧ b ≠ w.heap.size + 1 + 1 + 1 + 1 + 1 + 1 ∧ b ≠ w.heap.size + 1 + 1 + 1 + 1 + 1 + 1 + 1 + 1 + 1 := fun b hb => by have := HOS.out b hb; omega
              have hap : ∀ b, (fun b => Sm b ∨ (W9.heap.size ≤ b ∧ b < w1.heap.size)) b → ¬ S1 b := fun b hb h => by rcases hb with hb | hb; exact (HSM.out b hb).1 h; have := (HOS.out b h).2.1; omega
              exact ⟨i + 1, gm, hm, g1, h1, (fun b => Sm b ∨ (W9.heap.size ≤ b ∧ b < w1.heap.size)), S1, by go_num, ⟨by have := HM.out; omega⟩, ⟨{ ex := HX19.out.trans HX.out (fun b hb => .inr (HSM.out b hb).2.1), b3 := HX.out.blk HB3.out (fun e => by have := HSM.out _ e; omega), b4 := HX.out.blk HB4.out (fun e => by have := HSM.out _ e; omega), p0 := HPJ.out, p1 := hpo, apart := hap, s0 := hsn, s1 := hso, lo := HTW.out.lo }⟩⟩
      · go_upto_if 50 with (fail)
        have HX8 := Aside0.mk ((Ex.refl (fun _ => False) wr).alloc (.cells #[.int .i64 s.how, .int .i64 s.on, .int .i64 s.leave, .int .u8 s.x.f0, .int .i64 s.x.f1, .string s.x.f2, .slice s.A s.x.f3.length s.c, .int .i64 s.x.f4, .int .u8 s.y.f0, .int .i64 s.y.f1, .string s.y.f2, .slice s.B s.y.f3.length s.d, .int .i64 s.y.f4] 58))
        have HS8 := Aside0.mk (blk_new1 wr (.cells #[.int .i64 s.how, .int .i64 s.on, .int .i64 s.leave, .int .u8 s.x.f0, .int .i64 s.x.f1, .string s.x.f2, .slice s.A s.x.f3.length s.c, .int .i64 s.x.f4, .int .u8 s.y.f0, .int .i64 s.y.f1, .string s.y.f2, .slice s.B s.y.f3.length s.d, .int .i64 s.y.f4] 58))
        clear s0 s1 s2 s3 s4 s5 s6 s7 s8 s9 s10 s11 s12
        have HL3 := Aside0.mk (And.intro (lt_of_blk HTW.out.b3) (lt_of_blk HTW.out.b4))
        generalize (wr.alloc (.cells #[.int .i64 s.how, .int .i64 s.on, .int .i64 s.leave, .int .u8 s.x.f0, .int .i64 s.x.f1, .string s.x.f2, .slice s.A s.x.f3.length s.c, .int .i64 s.x.f4, .int .u8 s.y.f0, .int .i64 s.y.f1, .string s.y.f2, .slice s.B s.y.f3.length s.d, .int .i64 s.y.f4] 58)) = W8 at HX8 HS8 ⊢
        go_cut [] from 50 to 68 (fun wx => ∃ (gm hm : Nat) (Sm : Nat → Prop), Aside0 (Ex (fun b => b = w.heap.size + 1 + 1 + 1 + 1 + 1 + 1 ∨ b = w.heap.size + 1 + 1 + 1 + 1 + 1 + 1 + 1 + 1 + 1) W8 wx) ∧ Aside0 (wx.heap[w.heap.size + 1 + 1 + 1 + 1 + 1 + 1]? = some (.cells #[.pointer (some ⟨g0, 0, none⟩), .pointer (some ⟨gm, 0, none⟩)] 51 (0, 0))) ∧ Aside0 (wx.heap[w.heap.size + 1 + 1 + 1 + 1 + 1 + 1 + 1 + 1 + 1]? = some (.cells #[.pointer (some ⟨h0, 0, none⟩), .pointer (some ⟨hm, 0, none⟩)] 56 (0, 0))) ∧ Aside0 (Pair wx w.heap.size (fun b => b < w.heap.size) Sm gm hm i) ∧ Aside0 (∀ b, Sm b → ¬ S0 b ∧ w.heap.size ≤ b ∧ b < wx.heap.size ∧ b ≠ w.heap.size + 1 + 1 + 1 + 1 + 1 + 1 ∧ b ≠ w.heap.size + 1 + 1 + 1 + 1 + 1 + 1 + 1 + 1 + 1 ∧ b ≠ wr.heap.size))
        case first =>
          by_cases h4 : s.how = 4
          · have e4 : (s.how == 4) = true := by simpa using h4
            have HH4 := Aside0.mk h4
            clear h4
            have tb := HX8.out.blk HTW.out.b3 (fun h => h)
            have t0 := (blk_cell tb 0).trans rfl
            have tf0 := blk_frozen tb 0
            have t1 := (blk_cell tb 1).trans rfl
            have tf1 := blk_frozen tb 1
            have tl := lt_of_blk tb
            go_wp2_with fail
            refine (copy_pair (HTW.out.p0.ex0 HX8.out)).mono ?_
            rintro e W9 ⟨g2, mb2, ob2, rows2, came, u, l, rfl, hx9, hT9, hR9, hrel9, hc9, hl9, hsh9, hsu9⟩
            have HX9 := Aside0.mk (HX8.out.trans hx9 (fun _ h => h.elim))
            have HX89 := Aside0.mk hx9
            have HT9 := Aside0.mk hT9
            have HR9 := Aside0.mk hR9
            have HC9 := Aside0.mk (And.intro hrel9 (And.intro hc9 (And.intro hl9 (And.intro hsh9 hsu9))))
            clear hx9 hT9 hR9 hrel9 hc9 hl9 hsh9 hsu9
            clear tb tl t0 tf0 t1 tf1
            have tb := HX9.out.blk HTW.out.b3 (fun h => h)
            have t0 := (blk_cell tb 0).trans rfl
            have tf0 := blk_frozen tb 0
            have t1 := (blk_cell tb 1).trans rfl
            have tf1 := blk_frozen tb 1
            have tl := lt_of_blk tb
            have rb := HX9.out.blk HTW.out.b4 (fun h => h)
            have r0 := (blk_cell rb 0).trans rfl
            have rf0 := blk_frozen rb 0
            have r1 := (blk_cell rb 1).trans rfl
            have rf1 := blk_frozen rb 1
            have rl := lt_of_blk rb
            go_wp2_with fail
            have hxa : Ex (fun b => b = w.heap.size + 1 + 1 + 1 + 1 + 1 + 1) W9 (W9.setCell ⟨w.heap.size + 1 + 1 + 1 + 1 + 1 + 1, 1, none⟩ (.pointer (some ⟨g2, 0, none⟩))) := (Ex.refl (fun b => b = w.heap.size + 1 + 1 + 1 + 1 + 1 + 1) W9).set (p := ⟨w.heap.size + 1 + 1 + 1 + 1 + 1 + 1, 1, none⟩) (.inl rfl) _
            have HRA := Aside0.mk (HR9.out.ex hxa (fun e => (HTW.out.s0 _ HC9.out.2.2.2.1).2.2.1 e) (fun b hb e => (HTW.out.s0 b (HC9.out.2.2.2.2 b e.symm)).2.2.1 hb) (fun b hb e => by have := HTW.out.lo.1; omega))
            have HTA := Aside0.mk (HT9.out.ex hxa (fun b hb e => by have := HL3.out.1; have := hb.1; have := HX8.out.size; omega))
            have HB3 := Aside0.mk (show (W9.setCell ⟨w.heap.size + 1 + 1 + 1 + 1 + 1 + 1, 1, none⟩ (.pointer (some ⟨g2, 0, none⟩))).heap[w.heap.size + 1 + 1 + 1 + 1 + 1 + 1]? = some (.cells #[.pointer (some ⟨g0, 0, none⟩), .pointer (some ⟨g2, 0, none⟩)] 51 (0, 0)) from blk_put (HX9.out.blk HTW.out.b3 (fun h => h)) 1 _ rfl)
            have HB4 := Aside0.mk (hxa.blk (HX9.out.blk HTW.out.b4 (fun h => h)) (fun e => HTW.out.lo.2.2 e.symm))
            have HPA := Aside0.mk hxa
            generalize (W9.setCell ⟨w.heap.size + 1 + 1 + 1 + 1 + 1 + 1, 1, none⟩ (.pointer (some ⟨g2, 0, none⟩))) = WA at hxa HTA HRA HB3 HB4 HPA ⊢
            clear tb tl t0 tf0 t1 tf1
            clear rb rl r0 rf0 r1 rf1
            clear hxa
            have rb := HB4.out
            have r0 := (blk_cell rb 0).trans rfl
            have rf0 := blk_frozen rb 0
            have r1 := (blk_cell rb 1).trans rfl
            have rf1 := blk_frozen rb 1
            have rl := lt_of_blk rb
            have HL9 := Aside0.mk (And.intro (lt_of_blk HB3.out) (And.intro (lt_of_blk HB4.out) HPA.out.size))
            have HSZ9 := Aside0.mk (And.intro HX89.out.size HX8.out.size)
            go_wp2_with fail
            refine (rcopy_calls _ HRA.out (by have := HC9.out.2.2.1; omega) (by have := HX9.out.size; have := HL9.out.2.2; omega) (fun _ h => h)).mono ?_
            rintro e WB ⟨h2, u2, rfl, hR2, hh2, hu2, hxb⟩
            have HR2 := Aside0.mk hR2
            have HH2 := Aside0.mk (And.intro hh2 hu2)
            have HXB := Aside0.mk hxb
            clear hR2 hh2 hu2 hxb
            clear rb rl r0 rf0 r1 rf1
            have tb := HXB.out.blk HB3.out (fun h => h)
            have t0 := (blk_cell tb 0).trans rfl
            have tf0 := blk_frozen tb 0
            have t1 := (blk_cell tb 1).trans rfl
            have tf1 := blk_frozen tb 1
            have tl := lt_of_blk tb
            have rb := HXB.out.blk HB4.out (fun h => h)
            have r0 := (blk_cell rb 0).trans rfl
            have rf0 := blk_frozen rb 0
            have r1 := (blk_cell rb 1).trans rfl
            have rf1 := blk_frozen rb 1
            have rl := lt_of_blk rb
            have hxc : Ex (fun b => b = w.heap.size + 1 + 1 + 1 + 1 + 1 + 1 + 1 + 1 + 1) WB (WB.setCell ⟨w.heap.size + 1 + 1 + 1 + 1 + 1 + 1 + 1 + 1 + 1, 1, none⟩ (.pointer (some ⟨h2, 0, none⟩))) := (Ex.refl (fun b => b = w.heap.size + 1 + 1 + 1 + 1 + 1 + 1 + 1 + 1 + 1) WB).set (p := ⟨w.heap.size + 1 + 1 + 1 + 1 + 1 + 1 + 1 + 1 + 1, 1, none⟩) (.inl rfl) _
            have HB3c := Aside0.mk (hxc.blk (HXB.out.blk HB3.out (fun h => h)) (fun e => HTW.out.lo.2.2 e))
            have HB4c := Aside0.mk (show (WB.setCell ⟨w.heap.size + 1 + 1 + 1 + 1 + 1 + 1 + 1 + 1 + 1, 1, none⟩ (.pointer (some ⟨h2, 0, none⟩))).heap[w.heap.size + 1 + 1 + 1 + 1 + 1 + 1 + 1 + 1 + 1]? = some (.cells #[.pointer (some ⟨h0, 0, none⟩), .pointer (some ⟨h2, 0, none⟩)] 56 (0, 0)) from blk_put (HXB.out.blk HB4.out (fun h => h)) 1 _ rfl)
            have HXC := Aside0.mk hxc
            clear hxc
            go_wp2_with fail
            go_meet
            have hn4 : ∀ b, W8.heap.size ≤ b → b ≠ w.heap.size + 1 + 1 + 1 + 1 + 1 + 1 ∧ b ≠ w.heap.size + 1 + 1 + 1 + 1 + 1 + 1 + 1 + 1 + 1 := fun b hb => by have h1 := HL3.out; have h2 := HX8.out.size; omega
            have hTC := (HTA.out.ex0 HXB.out).ex HXC.out (fun b hb e => (hn4 b hb.1).2 e)
            have hRC := HR2.out.ex HXC.out (fun e => (hn4 _ (by have := HH2.out.1; have := HL9.out.2.2; have := HSZ9.out; omega)).2 e) (fun b hb e => (hn4 b (by have := HH2.out.2 b e.symm; have := HL9.out.2.2; have := HSZ9.out; omega)).2 hb) (fun b hb e => by have := HTW.out.lo.2.1; omega)
            have hsz := HXB.out.size
            have hsz2 := HXC.out.size
            refine ⟨g2, h2, _, ⟨(((HX89.out.mono (S2 := fun b => b = w.heap.size + 1 + 1 + 1 + 1 + 1 + 1 ∨ b = w.heap.size + 1 + 1 + 1 + 1 + 1 + 1 + 1 + 1 + 1) (fun _ h => h.elim)).trans HPA.out (fun b hb => .inl (.inl hb))).trans HXB.out (fun _ h => h.elim)).trans HXC.out (fun b hb => .inl (.inr hb))⟩, HB3c, HB4c, ⟨rcopy_pair (w := W9) (w0 := W8) (by have := (HTW.out.ex.trans HX8.out (fun _ h => h.elim)).size; exact this) hTC hRC HC9.out.1 HC9.out.2.1 HC9.out.2.2.1 (by have := HH2.out.1; have := HL9.out.2.2; omega) (fun b hb => by have := HH2.out.2 b hb; have := HL9.out.2.2; omega) HSZ9.out.1 (by have := HL9.out.2.2; omega)⟩, ⟨fun b hb => ⟨fun h => by have := (HTW.out.s0 b h).2.1; have h1 := HX8.out.size; have := hb.1; omega, by have h1 := (HTW.out.ex.trans HX8.out (fun _ h => h.elim)).size; have := hb.1; omega, hb.2, (hn4 b hb.1).1, (hn4 b hb.1).2, by have h1 := lt_of_blk HS8.out; have := hb.1; omega⟩⟩⟩
          · have e4 : (s.how == 4) = false := by simpa using h4
            clear h4
            go_wp2_with fail
            go_meet
            exact ⟨g1, h1, S1, ⟨Ex.refl _ _⟩, ⟨HX8.out.blk HTW.out.b3 (fun h => h)⟩, ⟨HX8.out.blk HTW.out.b4 (fun h => h)⟩, ⟨HTW.out.p1.ex0 HX8.out⟩, ⟨fun b hb => ⟨(fun b h1 h2 => HTW.out.apart b h2 h1) b hb, (HTW.out.s1 b hb).1, Nat.lt_of_lt_of_le (HTW.out.s1 b hb).2.1 HX8.out.size, (HTW.out.s1 b hb).2.2.1, (HTW.out.s1 b hb).2.2.2, by have := (HTW.out.s1 b hb).2.1; omega⟩⟩⟩
        case rest =>
          obtain ⟨gm, hm, Sm, HX9, HB3, HB4, HPM, HSM⟩ := hcut
          obtain ⟨W9, rfl⟩ : ∃ W9, W9 = wc := ⟨_, rfl⟩
          have HPO := Aside0.mk ((HTW.out.p0.ex0 HX8.out).ex HX9.out (fun b hb e => by have h1 := HTW.out.s0 b hb; omega) (fun b hb e => by have h1 := HTW.out.lo; omega))
          have HS9 := Aside0.mk (HX9.out.blk HS8.out (fun e => by have h1 := HL3.out; omega))
          have HX19 := Aside0.mk ((HTW.out.ex.trans HX8.out (fun _ h => h.elim)).trans HX9.out (fun b hb => .inr (by have h1 := HTW.out.lo; omega)))
          have HAP := Aside0.mk (show ∀ b, S0 b → ¬ Sm b from fun b hb h => (HSM.out b h).1 hb)
          have HOS := Aside0.mk (show ∀ b, S0 b → w.heap.size ≤ b ∧ b < W9.heap.size ∧ b ≠ w.heap.size + 1 + 1 + 1 + 1 + 1 + 1 ∧ b ≠ w.heap.size + 1 + 1 + 1 + 1 + 1 + 1 + 1 + 1 + 1 from fun b hb => by have h1 := HTW.out.s0 b hb; have h2 := HX8.out.size; have h3 := HX9.out.size; omega)
          clear HX8 HS8 HX9
          go_upto_region 15 with (fail)
          refine region_byJ 21 [] (specL [Is (.int .i64 1), Is (.pointer (some ⟨w.heap.size + 1 + 1 + 1 + 1 + 1 + 1, 1, none⟩)), Is (.pointer (some ⟨gm, 0, none⟩)), Is (.int .i64 1), Is (.pointer (some ⟨w.heap.size + 1 + 1 + 1 + 1 + 1 + 1 + 1 + 1 + 1, 1, none⟩)), Is (.pointer (some ⟨hm, 0, none⟩)), Is (.agg #[.int .i64 s.how, .int .i64 s.on, .int .i64 s.leave, .int .u8 s.x.f0, .int .i64 s.x.f1, .string s.x.f2, .slice s.A s.x.f3.length s.c, .int .i64 s.x.f4, .int .u8 s.y.f0, .int .i64 s.y.f1, .string s.y.f2, .slice s.B s.y.f3.length s.d, .int .i64 s.y.f4]), Is (.bool true), Is (.bool false), Is (.bool false), Is (.int .i64 1), Is (.int .i64 0), Is (.pointer (some ⟨w.heap.size + 1 + 1 + 1 + 1 + 1 + 1, 0, none⟩)), Is (.pointer (some ⟨g0, 0, none⟩)), Is (.int .i64 1), Is (.int .i64 0), Is (.pointer (some ⟨w.heap.size + 1 + 1 + 1 + 1 + 1 + 1 + 1 + 1 + 1, 0, none⟩)), Is (.pointer (some ⟨h0, 0, none⟩)), Is (.bool true), Is (.bool false), Is (.bool false)]) ⟨7, 0, fun bp _ _ w1 => JS W9 w.heap.size (fun b => b < w.heap.size) Sm gm hm (i + 1) bp w1⟩ (show (0 : Nat) < 21 from by decide) (show (7 : Nat) ∉ [] ∧ (0 : Nat) ∉ [] from by decide) (by kernel_rfl) (by kernel_rfl) (Sm) (only 7 (Sm)) (fun _ _ h => h.2) (stabS_all 7 (stab_cons (stab_is _) (stab_cons (stab_is _) (stab_cons (stab_is _) (stab_cons (stab_is _) (stab_cons (stab_is _) (stab_cons (stab_is _) (stab_cons (stab_is _) (stab_cons (stab_is _) (stab_cons (stab_is _) (stab_cons (stab_is _) (stab_cons (stab_is _) (stab_cons (stab_is _) (stab_cons (stab_is _) (stab_cons (stab_is _) (stab_cons (stab_is _) (stab_cons (stab_is _) (stab_cons (stab_is _) (stab_cons (stab_is _) (stab_cons (stab_is _) (stab_cons (stab_is _) (stab_cons (stab_is _) (stab_nil)))))))))))))))))))))) (stabS_start (stabS_cons (fun _ => stabS_is _ _) (stabS_cons (fun _ => stabS_is _ _) (stabS_cons (fun _ => stabS_is _ _) (stabS_cons (fun _ => stabS_is _ _) (stabS_cons (fun _ => stabS_is _ _) (stabS_cons (fun _ => stabS_is _ _) (stabS_cons (fun _ => stabS_is _ _) (stabS_cons (fun h => absurd rfl h) (stabS_cons (fun _ => stabS_is _ _) (stabS_cons (fun _ => stabS_is _ _) (stabS_cons (fun _ => stabS_is _ _) (stabS_cons (fun _ => stabS_is _ _) (stabS_cons (fun _ => stabS_is _ _) (stabS_cons (fun _ => stabS_is _ _) (stabS_cons (fun _ => stabS_is _ _) (stabS_cons (fun _ => stabS_is _ _) (stabS_cons (fun _ => stabS_is _ _) (stabS_cons (fun _ => stabS_is _ _) (stabS_cons (fun _ => stabS_is _ _) (stabS_cons (fun _ => stabS_is _ _) (stabS_cons (fun _ => stabS_is _ _) (stabS_nil _ _ _)))))))))))))))))))))))) ?_ ?_ (⟨fun _ => (Ex.refl _ _).drew, fun h => by cases h⟩) ?_
          · intro i hi hnl
            obtain rfl | rfl | rfl | rfl | rfl | rfl | rfl | rfl | rfl | rfl | rfl | rfl | rfl | rfl | rfl | rfl | rfl | rfl | rfl | rfl | rfl : i = 0 ∨ i = 1 ∨ i = 2 ∨ i = 3 ∨ i = 4 ∨ i = 5 ∨ i = 6 ∨ i = 7 ∨ i = 8 ∨ i = 9 ∨ i = 10 ∨ i = 11 ∨ i = 12 ∨ i = 13 ∨ i = 14 ∨ i = 15 ∨ i = 16 ∨ i = 17 ∨ i = 18 ∨ i = 19 ∨ i = 20 := by omega
            · intro o ho ρ yl w1 hx hc hf hgl hp hb bp bq jv hJ hjp hjq
              simp only [List.getElem?_toArray, List.getElem?_cons_succ, List.getElem?_cons_zero, Option.some.injEq] at ho
              subst ho
              have hx := ((Ex.refl (Sm) W9).drew).trans hx (fun _ h => .inl h)
              have b7 := hb 7 (by kernel_rfl)
              clear hp hb
              refine wantL rfl ⟨.int .i64 1, w1, ?_, Ex.refl _ _, rfl, JS.keep _ rfl hJ⟩
              go_simp
            · intro o ho ρ yl w1 hx hc hf hgl hp hb bp bq jv hJ hjp hjq
              simp only [List.getElem?_toArray, List.getElem?_cons_succ, List.getElem?_cons_zero, Option.some.injEq] at ho
              subst ho
              have hx := ((Ex.refl (Sm) W9).drew).trans hx (fun _ h => .inl h)
              obtain ⟨v0, s0, e0, y0⟩ := hp 0 (by kernel_rfl)
              have e0 := e0 69 rfl
              obtain rfl : v0 = (.int .i64 1) := s0
              clear y0
              have b3 := hb 3 (by kernel_rfl)
              clear hp hb
              refine wantL rfl ⟨.pointer (some ⟨w.heap.size + 1 + 1 + 1 + 1 + 1 + 1, 1, none⟩), w1, ?_, Ex.refl _ _, rfl, JS.keep _ rfl hJ⟩
              go_simp
            · intro o ho ρ yl w1 hx hc hf hgl hp hb bp bq jv hJ hjp hjq
              simp only [List.getElem?_toArray, List.getElem?_cons_succ, List.getElem?_cons_zero, Option.some.injEq] at ho
              subst ho
              have hx := ((Ex.refl (Sm) W9).drew).trans hx (fun _ h => .inl h)
              obtain ⟨v1, s1, e1, y1⟩ := hp 1 (by kernel_rfl)
              have e1 := e1 70 rfl
              obtain rfl : v1 = (.pointer (some ⟨w.heap.size + 1 + 1 + 1 + 1 + 1 + 1, 1, none⟩)) := s1
              clear y1
              clear hp hb
              have hb := hx.blk HB3.out (fun e => by have := HSM.out _ e; omega)
              have c0 := (blk_cell hb 0).trans rfl
              have c1 := (blk_cell hb 1).trans rfl
              have cl := lt_of_blk hb
              refine wantL rfl ⟨.pointer (some ⟨gm, 0, none⟩), w1, ?_, Ex.refl _ _, rfl, JS.keep _ rfl hJ⟩
              go_simp
            · intro o ho ρ yl w1 hx hc hf hgl hp hb bp bq jv hJ hjp hjq
              simp only [List.getElem?_toArray, List.getElem?_cons_succ, List.getElem?_cons_zero, Option.some.injEq] at ho
              subst ho
              have hx := ((Ex.refl (Sm) W9).drew).trans hx (fun _ h => .inl h)
              have b7 := hb 7 (by kernel_rfl)
              clear hp hb
              refine wantL rfl ⟨.int .i64 1, w1, ?_, Ex.refl _ _, rfl, JS.keep _ rfl hJ⟩
              go_simp
            · intro o ho ρ yl w1 hx hc hf hgl hp hb bp bq jv hJ hjp hjq
              simp only [List.getElem?_toArray, List.getElem?_cons_succ, List.getElem?_cons_zero, Option.some.injEq] at ho
              subst ho
              have hx := ((Ex.refl (Sm) W9).drew).trans hx (fun _ h => .inl h)
              obtain ⟨v3, s3, e3, y3⟩ := hp 3 (by kernel_rfl)
              have e3 := e3 72 rfl
              obtain rfl : v3 = (.int .i64 1) := s3
              clear y3
              have b4 := hb 4 (by kernel_rfl)
              clear hp hb
              refine wantL rfl ⟨.pointer (some ⟨w.heap.size + 1 + 1 + 1 + 1 + 1 + 1 + 1 + 1 + 1, 1, none⟩), w1, ?_, Ex.refl _ _, rfl, JS.keep _ rfl hJ⟩
              go_simp
            · intro o ho ρ yl w1 hx hc hf hgl hp hb bp bq jv hJ hjp hjq
              simp only [List.getElem?_toArray, List.getElem?_cons_succ, List.getElem?_cons_zero, Option.some.injEq] at ho
              subst ho
              have hx := ((Ex.refl (Sm) W9).drew).trans hx (fun _ h => .inl h)
              obtain ⟨v4, s4, e4, y4⟩ := hp 4 (by kernel_rfl)
              have e4 := e4 73 rfl
              obtain rfl : v4 = (.pointer (some ⟨w.heap.size + 1 + 1 + 1 + 1 + 1 + 1 + 1 + 1 + 1, 1, none⟩)) := s4
              clear y4
              clear hp hb
              have hb := hx.blk HB4.out (fun e => by have := HSM.out _ e; omega)
              have c0 := (blk_cell hb 0).trans rfl
              have c1 := (blk_cell hb 1).trans rfl
              have cl := lt_of_blk hb
              refine wantL rfl ⟨.pointer (some ⟨hm, 0, none⟩), w1, ?_, Ex.refl _ _, rfl, JS.keep _ rfl hJ⟩
              go_simp
            · intro o ho ρ yl w1 hx hc hf hgl hp hb bp bq jv hJ hjp hjq
              simp only [List.getElem?_toArray, List.getElem?_cons_succ, List.getElem?_cons_zero, Option.some.injEq] at ho
              subst ho
              have hx := ((Ex.refl (Sm) W9).drew).trans hx (fun _ h => .inl h)
              have b6 := hb 6 (by kernel_rfl)
              clear hp hb
              have hb := hx.blk HS9.out (fun e => by have := HSM.out _ e; omega)
              have c0 := (blk_cell hb 0).trans rfl
              have c1 := (blk_cell hb 1).trans rfl
              have c2 := (blk_cell hb 2).trans rfl
              have c3 := (blk_cell hb 3).trans rfl
              have c4 := (blk_cell hb 4).trans rfl
              have c5 := (blk_cell hb 5).trans rfl
              have c6 := (blk_cell hb 6).trans rfl
              have c7 := (blk_cell hb 7).trans rfl
              have c8 := (blk_cell hb 8).trans rfl
              have c9 := (blk_cell hb 9).trans rfl
              have c10 := (blk_cell hb 10).trans rfl
              have c11 := (blk_cell hb 11).trans rfl
              have c12 := (blk_cell hb 12).trans rfl
              have cl := lt_of_blk hb
              refine wantL rfl ⟨.agg #[.int .i64 s.how, .int .i64 s.on, .int .i64 s.leave, .int .u8 s.x.f0, .int .i64 s.x.f1, .string s.x.f2, .slice s.A s.x.f3.length s.c, .int .i64 s.x.f4, .int .u8 s.y.f0, .int .i64 s.y.f1, .string s.y.f2, .slice s.B s.y.f3.length s.d, .int .i64 s.y.f4], w1, ?_, Ex.refl _ _, rfl, JS.keep _ rfl hJ⟩
              go_simp
            · intro o ho ρ yl w1 hx hc hf hgl hp hb bp bq jv hJ hjp hjq
              simp only [List.getElem?_toArray, List.getElem?_cons_succ, List.getElem?_cons_zero, Option.some.injEq] at ho
              subst ho
              have hx := ((Ex.refl (Sm) W9).drew).trans hx (fun _ h => .inl h)
              obtain ⟨v2, s2, e2, y2⟩ := hp 2 (by kernel_rfl)
              have e2 := e2 71 rfl
              obtain rfl : v2 = (.pointer (some ⟨gm, 0, none⟩)) := s2
              clear y2
              obtain ⟨v5, s5, e5, y5⟩ := hp 5 (by kernel_rfl)
              have e5 := e5 74 rfl
              obtain rfl : v5 = (.pointer (some ⟨hm, 0, none⟩)) := s5
              clear y5
              obtain ⟨v6, s6, e6, y6⟩ := hp 6 (by kernel_rfl)
              have e6 := e6 75 rfl
              obtain rfl : v6 = (.agg #[.int .i64 s.how, .int .i64 s.on, .int .i64 s.leave, .int .u8 s.x.f0, .int .i64 s.x.f1, .string s.x.f2, .slice s.A s.x.f3.length s.c, .int .i64 s.x.f4, .int .u8 s.y.f0, .int .i64 s.y.f1, .string s.y.f2, .slice s.B s.y.f3.length s.d, .int .i64 s.y.f4]) := s6
              clear y6
              clear hp hb
              refine wantR rfl ⟨22, #[.pointer (some ⟨gm, 0, none⟩), .pointer (some ⟨hm, 0, none⟩), .agg #[.int .i64 s.how, .int .i64 s.on, .int .i64 s.leave, .int .u8 s.x.f0, .int .i64 s.x.f1, .string s.x.f2, .slice s.A s.x.f3.length s.c, .int .i64 s.x.f4, .int .u8 s.y.f0, .int .i64 s.y.f1, .string s.y.f2, .slice s.B s.y.f3.length s.d, .int .i64 s.y.f4]], exec_call' Try.func22 (by kernel_rfl) rfl _ rfl (by simp [e2, e5, e6]) (hf 22), ?_⟩
              have hb0 := hJ.1 (hjp rfl)
              have hwx := HX19.out.trans hb0 (fun _ h => h.elim)
              refine (step_calls s.how s.on s.leave s.x s.y s.A s.B s.c s.d _ (HPM.out.ex0 hb0) (by omega) hwx.size (fun _ h => h) HSG.out.hc HSG.out.hd (ex_F hwx HSG.out.fk (fun _ _ h => h)) (ex_F hwx HSG.out.fv (fun _ _ h => h)) HSG.out.wx HSG.out.wy).mono ?_
              rintro e wq ⟨rfl, hxq, hpq⟩
              exact ⟨_, rfl, ex_the hxq, rfl, JS.did _ rfl hJ (hjp rfl) hxq hpq⟩
            · intro o ho ρ yl w1 hx hc hf hgl hp hb bp bq jv hJ hjp hjq
              simp only [List.getElem?_toArray, List.getElem?_cons_succ, List.getElem?_cons_zero, Option.some.injEq] at ho
              subst ho
              have hx := ((Ex.refl (Sm) W9).drew).trans hx (fun _ h => .inl h)
              obtain ⟨v7, s7, e7, y7⟩ := hp 7 (by kernel_rfl)
              have e7 := e7 76 rfl
              obtain rfl : v7 = (.bool true) := s7
              clear y7
              clear hp hb
              refine wantL rfl ⟨.bool false, w1, ?_, Ex.refl _ _, rfl, JS.keep _ rfl hJ⟩
              go_simp
            · intro o ho ρ yl w1 hx hc hf hgl hp hb bp bq jv hJ hjp hjq
              simp only [List.getElem?_toArray, List.getElem?_cons_succ, List.getElem?_cons_zero, Option.some.injEq] at ho
              subst ho
              have hx := ((Ex.refl (Sm) W9).drew).trans hx (fun _ h => .inl h)
              obtain ⟨v8, s8, e8, y8⟩ := hp 8 (by kernel_rfl)
              have e8 := e8 77 rfl
              obtain rfl : v8 = (.bool false) := s8
              clear y8
              obtain ⟨v7, s7, e7, y7⟩ := hp 7 (by kernel_rfl)
              have e7 := e7 76 rfl
              obtain rfl : v7 = (.bool true) := s7
              clear y7
              clear hp hb
              refine wantL rfl ⟨.bool false, w1, ?_, Ex.refl _ _, rfl, JS.keep _ rfl hJ⟩
              go_simp
            · intro o ho ρ yl w1 hx hc hf hgl hp hb bp bq jv hJ hjp hjq
              simp only [List.getElem?_toArray, List.getElem?_cons_succ, List.getElem?_cons_zero, Option.some.injEq] at ho
              subst ho
              have hx := ((Ex.refl (Sm) W9).drew).trans hx (fun _ h => .inl h)
              obtain ⟨v9, s9, e9, y9⟩ := hp 9 (by kernel_rfl)
              have e9 := e9 78 rfl
              obtain rfl : v9 = (.bool false) := s9
              have y9 := y9 rfl
              have b7 := hb 7 (by kernel_rfl)
              clear hp hb
              refine wantL (by simp [Region.wanted, y9]) ⟨.int .i64 1, w1, ?_, Ex.refl _ _, rfl, JS.keep _ rfl hJ⟩
              go_simp
            · intro o ho ρ yl w1 hx hc hf hgl hp hb bp bq jv hJ hjp hjq
              simp only [List.getElem?_toArray, List.getElem?_cons_succ, List.getElem?_cons_zero, Option.some.injEq] at ho
              subst ho
              have hx := ((Ex.refl (Sm) W9).drew).trans hx (fun _ h => .inl h)
              obtain ⟨v10, s10, e10, y10⟩ := hp 10 (by kernel_rfl)
              have e10 := e10 79 rfl
              obtain rfl : v10 = (.int .i64 1) := s10
              clear y10
              obtain ⟨v9, s9, e9, y9⟩ := hp 9 (by kernel_rfl)
              have e9 := e9 78 rfl
              obtain rfl : v9 = (.bool false) := s9
              have y9 := y9 rfl
              clear hp hb
              refine wantL (by simp [Region.wanted, y9]) ⟨.int .i64 0, w1, ?_, Ex.refl _ _, rfl, JS.keep _ rfl hJ⟩
              go_simp
              decide
            · intro o ho ρ yl w1 hx hc hf hgl hp hb bp bq jv hJ hjp hjq
              simp only [List.getElem?_toArray, List.getElem?_cons_succ, List.getElem?_cons_zero, Option.some.injEq] at ho
              subst ho
              have hx := ((Ex.refl (Sm) W9).drew).trans hx (fun _ h => .inl h)
              obtain ⟨v11, s11, e11, y11⟩ := hp 11 (by kernel_rfl)
              have e11 := e11 80 rfl
              obtain rfl : v11 = (.int .i64 0) := s11
              clear y11
              obtain ⟨v9, s9, e9, y9⟩ := hp 9 (by kernel_rfl)
              have e9 := e9 78 rfl
              obtain rfl : v9 = (.bool false) := s9
              have y9 := y9 rfl
              have b3 := hb 3 (by kernel_rfl)
              clear hp hb
              refine wantL (by simp [Region.wanted, y9]) ⟨.pointer (some ⟨w.heap.size + 1 + 1 + 1 + 1 + 1 + 1, 0, none⟩), w1, ?_, Ex.refl _ _, rfl, JS.keep _ rfl hJ⟩
              go_simp
            · intro o ho ρ yl w1 hx hc hf hgl hp hb bp bq jv hJ hjp hjq
              simp only [List.getElem?_toArray, List.getElem?_cons_succ, List.getElem?_cons_zero, Option.some.injEq] at ho
              subst ho
              have hx := ((Ex.refl (Sm) W9).drew).trans hx (fun _ h => .inl h)
              obtain ⟨v12, s12, e12, y12⟩ := hp 12 (by kernel_rfl)
              have e12 := e12 81 rfl
              obtain rfl : v12 = (.pointer (some ⟨w.heap.size + 1 + 1 + 1 + 1 + 1 + 1, 0, none⟩)) := s12
              clear y12
              obtain ⟨v9, s9, e9, y9⟩ := hp 9 (by kernel_rfl)
              have e9 := e9 78 rfl
              obtain rfl : v9 = (.bool false) := s9
              have y9 := y9 rfl
              clear hp hb
              have hb := hx.blk HB3.out (fun e => by have := HSM.out _ e; omega)
              have c0 := (blk_cell hb 0).trans rfl
              have c1 := (blk_cell hb 1).trans rfl
              have cl := lt_of_blk hb
              refine wantL (by simp [Region.wanted, y9]) ⟨.pointer (some ⟨g0, 0, none⟩), w1, ?_, Ex.refl _ _, rfl, JS.keep _ rfl hJ⟩
              go_simp
            · intro o ho ρ yl w1 hx hc hf hgl hp hb bp bq jv hJ hjp hjq
              simp only [List.getElem?_toArray, List.getElem?_cons_succ, List.getElem?_cons_zero, Option.some.injEq] at ho
              subst ho
              have hx := ((Ex.refl (Sm) W9).drew).trans hx (fun _ h => .inl h)
              obtain ⟨v9, s9, e9, y9⟩ := hp 9 (by kernel_rfl)
              have e9 := e9 78 rfl
              obtain rfl : v9 = (.bool false) := s9
              have y9 := y9 rfl
              have b7 := hb 7 (by kernel_rfl)
              clear hp hb
              refine wantL (by simp [Region.wanted, y9]) ⟨.int .i64 1, w1, ?_, Ex.refl _ _, rfl, JS.keep _ rfl hJ⟩
              go_simp
            · intro o ho ρ yl w1 hx hc hf hgl hp hb bp bq jv hJ hjp hjq
              simp only [List.getElem?_toArray, List.getElem?_cons_succ, List.getElem?_cons_zero, Option.some.injEq] at ho
              subst ho
              have hx := ((Ex.refl (Sm) W9).drew).trans hx (fun _ h => .inl h)
              obtain ⟨v14, s14, e14, y14⟩ := hp 14 (by kernel_rfl)
              have e14 := e14 83 rfl
              obtain rfl : v14 = (.int .i64 1) := s14
              clear y14
              obtain ⟨v9, s9, e9, y9⟩ := hp 9 (by kernel_rfl)
              have e9 := e9 78 rfl
              obtain rfl : v9 = (.bool false) := s9
              have y9 := y9 rfl
              clear hp hb
              refine wantL (by simp [Region.wanted, y9]) ⟨.int .i64 0, w1, ?_, Ex.refl _ _, rfl, JS.keep _ rfl hJ⟩
              go_simp
              decide
            · intro o ho ρ yl w1 hx hc hf hgl hp hb bp bq jv hJ hjp hjq
              simp only [List.getElem?_toArray, List.getElem?_cons_succ, List.getElem?_cons_zero, Option.some.injEq] at ho
              subst ho
              have hx := ((Ex.refl (Sm) W9).drew).trans hx (fun _ h => .inl h)
              obtain ⟨v15, s15, e15, y15⟩ := hp 15 (by kernel_rfl)
              have e15 := e15 84 rfl
              obtain rfl : v15 = (.int .i64 0) := s15
              clear y15
              obtain ⟨v9, s9, e9, y9⟩ := hp 9 (by kernel_rfl)
              have e9 := e9 78 rfl
              obtain rfl : v9 = (.bool false) := s9
              have y9 := y9 rfl
              have b4 := hb 4 (by kernel_rfl)
              clear hp hb
              refine wantL (by simp [Region.wanted, y9]) ⟨.pointer (some ⟨w.heap.size + 1 + 1 + 1 + 1 + 1 + 1 + 1 + 1 + 1, 0, none⟩), w1, ?_, Ex.refl _ _, rfl, JS.keep _ rfl hJ⟩
              go_simp
            · intro o ho ρ yl w1 hx hc hf hgl hp hb bp bq jv hJ hjp hjq
              simp only [List.getElem?_toArray, List.getElem?_cons_succ, List.getElem?_cons_zero, Option.some.injEq] at ho
              subst ho
              have hx := ((Ex.refl (Sm) W9).drew).trans hx (fun _ h => .inl h)
              obtain ⟨v16, s16, e16, y16⟩ := hp 16 (by kernel_rfl)
              have e16 := e16 85 rfl
              obtain rfl : v16 = (.pointer (some ⟨w.heap.size + 1 + 1 + 1 + 1 + 1 + 1 + 1 + 1 + 1, 0, none⟩)) := s16
              clear y16
              obtain ⟨v9, s9, e9, y9⟩ := hp 9 (by kernel_rfl)
              have e9 := e9 78 rfl
              obtain rfl : v9 = (.bool false) := s9
              have y9 := y9 rfl
              clear hp hb
              have hb := hx.blk HB4.out (fun e => by have := HSM.out _ e; omega)
              have c0 := (blk_cell hb 0).trans rfl
              have c1 := (blk_cell hb 1).trans rfl
              have cl := lt_of_blk hb
              refine wantL (by simp [Region.wanted, y9]) ⟨.pointer (some ⟨h0, 0, none⟩), w1, ?_, Ex.refl _ _, rfl, JS.keep _ rfl hJ⟩
              go_simp
            · intro o ho ρ yl w1 hx hc hf hgl hp hb bp bq jv hJ hjp hjq
              simp only [List.getElem?_toArray, List.getElem?_cons_succ, List.getElem?_cons_zero, Option.some.injEq] at ho
              subst ho
              have hx := ((Ex.refl (Sm) W9).drew).trans hx (fun _ h => .inl h)
              obtain ⟨v13, s13, e13, y13⟩ := hp 13 (by kernel_rfl)
              have e13 := e13 82 rfl
              obtain rfl : v13 = (.pointer (some ⟨g0, 0, none⟩)) := s13
              clear y13
              obtain ⟨v17, s17, e17, y17⟩ := hp 17 (by kernel_rfl)
              have e17 := e17 86 rfl
              obtain rfl : v17 = (.pointer (some ⟨h0, 0, none⟩)) := s17
              clear y17
              obtain ⟨v9, s9, e9, y9⟩ := hp 9 (by kernel_rfl)
              have e9 := e9 78 rfl
              obtain rfl : v9 = (.bool false) := s9
              have y9 := y9 rfl
              clear hp hb
              refine wantR (by simp [Region.wanted, y9]) ⟨23, #[.pointer (some ⟨g0, 0, none⟩), .pointer (some ⟨h0, 0, none⟩), .int .i64 0], exec_call' Try.func23 (by kernel_rfl) rfl _ rfl (by simp [e13, e17, hc]) (hf 23), ?_⟩
              refine (walk_pair 0 (HPO.out.ex hx HAP.out (fun b hb e => by have := (HSM.out b e).2.1; omega)) (by omega)).mono ?_
              rintro e wq ⟨rfl, hq⟩
              exact ⟨_, rfl, ex_only hq, rfl, JS.keep _ rfl (JS.grow hJ hq)⟩
            · intro o ho ρ yl w1 hx hc hf hgl hp hb bp bq jv hJ hjp hjq
              simp only [List.getElem?_toArray, List.getElem?_cons_succ, List.getElem?_cons_zero, Option.some.injEq] at ho
              subst ho
              have hx := ((Ex.refl (Sm) W9).drew).trans hx (fun _ h => .inl h)
              obtain ⟨v18, s18, e18, y18⟩ := hp 18 (by kernel_rfl)
              have e18 := e18 87 rfl
              obtain rfl : v18 = (.bool true) := s18
              clear y18
              obtain ⟨v9, s9, e9, y9⟩ := hp 9 (by kernel_rfl)
              have e9 := e9 78 rfl
              obtain rfl : v9 = (.bool false) := s9
              have y9 := y9 rfl
              clear hp hb
              refine wantL (by simp [Region.wanted, y9]) ⟨.bool false, w1, ?_, Ex.refl _ _, rfl, JS.keep _ rfl hJ⟩
              go_simp
            · intro o ho ρ yl w1 hx hc hf hgl hp hb bp bq jv hJ hjp hjq
              simp only [List.getElem?_toArray, List.getElem?_cons_succ, List.getElem?_cons_zero, Option.some.injEq] at ho
              subst ho
              have hx := ((Ex.refl (Sm) W9).drew).trans hx (fun _ h => .inl h)
              obtain ⟨v9, s9, e9, y9⟩ := hp 9 (by kernel_rfl)
              have e9 := e9 78 rfl
              obtain rfl : v9 = (.bool false) := s9
              clear y9
              obtain ⟨v19, s19, e19, y19⟩ := hp 19 (by kernel_rfl)
              have e19 := e19 88 rfl
              obtain rfl : v19 = (.bool false) := s19
              clear y19
              clear hp hb
              refine wantL rfl ⟨.bool false, w1, ?_, Ex.refl _ _, rfl, JS.keep _ rfl hJ⟩
              go_simp
          · intro i hil
            exact absurd hil (by simp)
          · intro xs w1 hx hs hJJ KQ hKK
            have s0 : xs 0 = (.int .i64 1) := hs 0 (by omega)
            have s1 : xs 1 = (.pointer (some ⟨w.heap.size + 1 + 1 + 1 + 1 + 1 + 1, 1, none⟩)) := hs 1 (by omega)
            have s2 : xs 2 = (.pointer (some ⟨gm, 0, none⟩)) := hs 2 (by omega)
            have s3 : xs 3 = (.int .i64 1) := hs 3 (by omega)
            have s4 : xs 4 = (.pointer (some ⟨w.heap.size + 1 + 1 + 1 + 1 + 1 + 1 + 1 + 1 + 1, 1, none⟩)) := hs 4 (by omega)
            have s5 : xs 5 = (.pointer (some ⟨hm, 0, none⟩)) := hs 5 (by omega)
            have s6 : xs 6 = (.agg #[.int .i64 s.how, .int .i64 s.on, .int .i64 s.leave, .int .u8 s.x.f0, .int .i64 s.x.f1, .string s.x.f2, .slice s.A s.x.f3.length s.c, .int .i64 s.x.f4, .int .u8 s.y.f0, .int .i64 s.y.f1, .string s.y.f2, .slice s.B s.y.f3.length s.d, .int .i64 s.y.f4]) := hs 6 (by omega)
            have s7 : xs 7 = (.bool true) := hs 7 (by omega)
            have s8 : xs 8 = (.bool false) := hs 8 (by omega)
            have s9 : xs 9 = (.bool false) := hs 9 (by omega)
            have s10 : xs 10 = (.int .i64 1) := hs 10 (by omega)
            have s11 : xs 11 = (.int .i64 0) := hs 11 (by omega)
            have s12 : xs 12 = (.pointer (some ⟨w.heap.size + 1 + 1 + 1 + 1 + 1 + 1, 0, none⟩)) := hs 12 (by omega)
            have s13 : xs 13 = (.pointer (some ⟨g0, 0, none⟩)) := hs 13 (by omega)
            have s14 : xs 14 = (.int .i64 1) := hs 14 (by omega)
            have s15 : xs 15 = (.int .i64 0) := hs 15 (by omega)
            have s16 : xs 16 = (.pointer (some ⟨w.heap.size + 1 + 1 + 1 + 1 + 1 + 1 + 1 + 1 + 1, 0, none⟩)) := hs 16 (by omega)
            have s17 : xs 17 = (.pointer (some ⟨h0, 0, none⟩)) := hs 17 (by omega)
            have s18 : xs 18 = (.bool true) := hs 18 (by omega)
            have s19 : xs 19 = (.bool false) := hs 19 (by omega)
            have s20 : xs 20 = (.bool false) := hs 20 (by omega)
            clear hs
            simp only [putSlots, dstOf, List.getElem?_toArray, List.getElem?_cons_succ, List.getElem?_cons_zero, Option.bind_some, List.setIfInBounds_toArray, List.set_cons_zero, List.set_cons_succ, List.drop_succ_cons, List.drop_zero]
            rw [s0, s1, s2, s3, s4, s5, s6, s7, s8, s9, s10, s11, s12, s13, s14, s15, s16, s17, s18, s19, s20]
            clear s0 s1 s2 s3 s4 s5 s6 s7 s8 s9 s10 s11 s12 s13 s14 s15 s16 s17 s18 s19 s20
            refine hKK _ _ ?_
            have hJJ := hJJ (show (7 : Nat) < 21 from by decide)
            have HX := Aside0.mk hx
            have HPJ := Aside0.mk (hJJ.2 rfl).2
            clear hx hKK hJJ
            go_wp2_with fail
            go_roundg (gk - 1)
            case measure => have := HM.out; omega
            case rel =>
              have hsz := HX.out.size
              have hpo := (HPO.out.ex HX.out HAP.out (fun b hb e => by have := (HSM.out b e).2.1; omega)).mono (fun b hb => hb) (Nat.le_succ i)
              have hsn : ∀ b, (fun b => Sm b ∨ (W9.heap.size ≤ b ∧ b < w1.heap.size)) b → w.heap.size ≤ b ∧ b < w1.heap.size ∧ b ≠ w.heap.size + 1 + 1 + 1 + 1 + 1 + 1 ∧ b ≠ w.heap.size + 1 + 1 + 1 + 1 + 1 + 1 + 1 + 1 + 1 := fun b hb => by have h1 := HX19.out.size; have h2 := lt_of_blk HB3.out; have h3 := lt_of_blk HB4.out; rcases hb with hb | hb; have := HSM.out b hb; omega; omega
              have hso : ∀ b, S0 b → w.heap.size ≤ b ∧ b < w1.heap.size ∧ b ≠ w.heap.size + 1 + 1 + 1 + 1 + 1 + 1 ∧ b ≠ w.heap.size + 1 + 1 + 1 + 1 + 1 + 1 + 1 + 1 + 1 := fun b hb => by have := HOS.out b hb; omega
              have hap : ∀ b, (fun b => Sm b ∨ (W9.heap.size ≤ b ∧ b < w1.heap.size)) b → ¬ S0 b := fun b hb h => by rcases hb with hb | hb; exact (HSM.out b hb).1 h; have := (HOS.out b h).2.1; omega
              exact ⟨i + 1, g0, h0, gm, hm, S0, (fun b => Sm b ∨ (W9.heap.size ≤ b ∧ b < w1.heap.size)), by go_num, ⟨by have := HM.out; omega⟩, ⟨{ ex := HX19.out.trans HX.out (fun b hb => .inr (HSM.out b hb).2.1), b3 := HX.out.blk HB3.out (fun e => by have := HSM.out _ e; omega), b4 := HX.out.blk HB4.out (fun e => by have := HSM.out _ e; omega), p0 := hpo, p1 := HPJ.out, apart := fun b h1 h2 => hap b h2 h1, s0 := hso, s1 := hsn, lo := HTW.out.lo }⟩⟩
    · have HNI := Aside0.mk hi
      have hlt : decide (i < n) = false := by simpa using hi
      clear hi
      have tb := HTW.out.b3
      have t0 := (blk_cell tb 0).trans rfl
      have t1 := (blk_cell tb 1).trans rfl
      have tl := lt_of_blk tb
      have rb := HTW.out.b4
      have r0 := (blk_cell rb 0).trans rfl
      have r1 := (blk_cell rb 1).trans rfl
      have rl := lt_of_blk rb
      have hi4 : i ≤ 400 := by have := HN4.out; have := HM.out; omega
      go_wp2_with fail
      refine (walk_pair 0 HTW.out.p0 (by omega)).mono ?_
      rintro e wa ⟨rfl, hxa⟩
      have HXA := Aside0.mk hxa
      clear hxa tb tl t0 t1 rb rl r0 r1
      have tb := HXA.out.blk HTW.out.b3 (fun h => h)
      have t0 := (blk_cell tb 0).trans rfl
      have t1 := (blk_cell tb 1).trans rfl
      have tl := lt_of_blk tb
      have rb := HXA.out.blk HTW.out.b4 (fun h => h)
      have r0 := (blk_cell rb 0).trans rfl
      have r1 := (blk_cell rb 1).trans rfl
      have rl := lt_of_blk rb
      go_wp2_with fail
      refine (walk_pair 1 (HTW.out.p1.ex0 HXA.out) (by omega)).mono ?_
      rintro e wb ⟨rfl, hxb⟩
      have HXB := Aside0.mk (HXA.out.trans hxb (fun _ h => h.elim))
      clear hxb tb tl t0 t1 rb rl r0 r1
      go_wp2_with fail
      refine (lives_calls _).mono ?_
      rintro e wd ⟨rfl, hxd⟩
      have HXD := Aside0.mk ((HTW.out.ex.trans HXB.out (fun _ h => h.elim)).trans hxd (fun _ h => h.elim))
      clear hxd
      go_wp2_with fail
      go_ret
      exact ⟨rfl, HXD.out⟩
end Go.Proofs.Ythkemcekcfccpaa.PBrandCompares
end
section
namespace Go.Proofs.Ythkemcekcfccpaa.brandTables
open Go.ChangeShapes Go.WideShapes Go.ChangeAt Go.RowKit Go.Proofs.Ythkemcekcfccpaa.GBrandCompares
open Go.ChangeMaps (open_string shut_string)
set_option linter.unusedVariables false
theorem own : ownKnob Try.prog.godebug = none := by kernel_rfl
theorem laidOut : laidOutB Try.prog = true := by kernel_rfl
set_option maxRecDepth 100000 in
theorem lifted (os : Os) (started : os.Started) (H : Type) (enc : TypeId × Value → H) :
    ReturnsInHanded {} Try.checked os 6 .any (Rows.brandTablesSpec.pre6 enc Try.prog Try.f6 Rows.brandTablesRow.domain false) (Rows.brandTablesSpec.post enc Try.prog Try.f6 false true false false) := by
  refine returnsInHanded_of_change_sized (C := Try.checked) own started (by kernel_rfl) Try.func6
    (ChangeSpec.witness6 (enc := enc) (C := Try.checked) false ⟨#[], #[.slice none 0 0], []⟩ 8 (by kernel_rfl) (by kernel_rfl) (by kernel_rfl) (by kernel_rfl)) ?_
  intro W base args ds gs before hval0 hW hcnd hsz0 _
  have hval : ∀ (j : Nat) t v, Try.f6.params[j]? = some t → args[j]? = some v → Value.okWide Try.prog W .any base t v := hval0
  have hW' := hW
  obtain ⟨p, q, hA0, hV, rfl, hfz, hnd⟩ := hW
  have hA : DataW.TrodAll enc Try.prog W 0 (fun _ => true) true Try.f6.params.toList args.toList ds p := hA0
  rw [Try.params6] at hA hval
  obtain ⟨v0, vs0, d0, ds0, p0, q0, hargs, rfl, rfl, h0, r0⟩ := trodAll_cons hA
  obtain ⟨rfl, rfl, rfl⟩ := trodAll_nil r0
  obtain rfl : args = #[v0] := by cases args; simp_all
  obtain ⟨rfl, rfl⟩ := trodVars_none hV
  have k0 := h0
  have lt0 : ∀ x ∈ p0, x.block < W.heap.size := by obtain ⟨m, hm⟩ := k0; exact DataW.trod_lt m _ _ _ hm
  obtain ⟨n, A, c, rfl, _, hn, hS⟩ := PBrandCompares.open_steps (hval 0 50 v0 rfl rfl) h0
  clear hA0 hval0 hsz0
  refine (PBrandCompares.tables_walk n A c W hn hS).mono fun e W' ⟨he, hex⟩ => ?_
  have bel : Below W.heap.size W W' := hex.below (Nat.le_refl _) (fun _ h => h.elim)
  subst he
  exact ⟨_, rfl, _, _, _, [], _, [], hW', trodAll_mk1 (shut_bool Try.underlying4 _), trodAll_mk1 (Below.trod laidOut (by kernel_rfl) (of_decide_eq_true (by kernel_rfl)) k0 bel lt0), rfl, bel.frame _, fun h => by cases h⟩
theorem over : Rows.brandTablesRow.holds Try.pinned (OpenSpec.ofChange Rows.brandTablesSpec) :=
  OpenClaim.holds_of_wide 6 Try.f6 rfl rfl rfl rfl rfl rfl rfl ⟨rfl, rfl, rfl, rfl, rfl⟩ rfl rfl rfl rfl rfl (by kernel_rfl) Try.func6 (by kernel_rfl)
    (of_decide_eq_true (by kernel_rfl)) (by unfold Func.isWrapper; first | (rw [if_pos (by decide +kernel)]; kernel_rfl) | (rw [if_neg (by decide +kernel)]; exact ⟨rfl, rfl⟩))
    (fun os started H enc _ => lifted os started H enc)
theorem proved : Rows.BrandTablesSaid := over
end Go.Proofs.Ythkemcekcfccpaa.brandTables
end
