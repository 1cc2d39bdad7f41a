/- Lemmas for R5. -/
import Derived.Test.YthkemcekcfccpaaBrandComparesR5M0
import Derived.Test.YthkemcekcfccpaaBrandComparesR5Px2
import Derived.Deep.Slices
import Derived.ChangeMaps5
import Derived.WideShapes
import Derived.Test.YthkemcekcfccpaaBrandComparesR5Px0
import Derived.OrdersHeld
import Derived.Deep.RegionHeld3
import Derived.Maps.AppendAt
import Derived.Maps.RangeRun
section
namespace Go.Proofs.Ythkemcekcfccpaa.PBrandCompares
open Go.RowKit Go.Proofs.YthkemcekcfccpaaW.PrintWords Go.Proofs.YthkemcekcfccpaaW.PrintLast Go.Proofs.YthkemcekcfccpaaW.PrintMore
open Go.Proofs.Ythkemcekcfccpaa.GBrandCompares
set_option linter.unusedVariables false
set_option linter.unusedSimpArgs false
set_option maxRecDepth 100000 in
set_option maxHeartbeats 4000000 in
theorem put_old (x y : S27) (A B : Option Addr) (c d g mb ob : Nat) (T ok : Nat → Prop) (rows : List Row) (came : Nat) (w : World) (h : Tab w g mb ob T rows came) (hcame : came < 1000000000) (hc : x.f3.length ≤ c) (hd : y.f3.length ≤ d) (hF : Kd.F k27 w ok A x.f3.length x.f3) (hF2 : Kd.F k27 w ok B y.f3.length y.f3) (hok : ∀ b, ok b → ¬ T b) (hm : mayV x = true) (hn : mayV y = true) (m : Mk) (hmk : ∀ m2, MarkOf x m2 → m2 = m) (hkey : Key m) (j : Nat) (r : Row) (hp : posMk m (rows.map (·.m)) = some j) (hr : rows[j]? = some r) (hrm : r.m = m) : PUT x y A B c d g w fun e w' => e = .returned (.tuple #[.agg #[.int .u8 r.v.f0, .int .i64 r.v.f1, .string r.v.f2, .slice r.B r.v.f3.length r.cb, .int .i64 r.v.f4], .bool true, .int .i64 0]) ∧ Ex (fun b => b = g ∨ b = mb ∨ b = ob) w w' ∧ Kd.F k27 w' T r.B r.v.f3.length r.v.f3 ∧ ∃ B d, Tab w' g mb ob (fun b => T b ∨ w.heap.size ≤ b) (rows.set j (r.turn y B d)) came := by
  have HT := Aside0.mk h
  have HG := Aside0.mk h.hg
  have HF := Aside0.mk (Kd.F_bound hF)
  have HF2 := Aside0.mk (Kd.F_bound hF2)
  have HM := Aside0.mk hm
  have HN := Aside0.mk hn
  have HMK := Aside0.mk hmk
  have HKEY := Aside0.mk hkey
  have HOK := Aside0.mk hok
  have HC := Aside0.mk (And.intro hc hd)
  have HP := Aside0.mk hp
  have HRW := Aside0.mk (And.intro hr hrm)
  obtain ⟨i0, hi0, hz0, _, _⟩ := info_parts info78
  have HI := Aside0.mk (And.intro hi0 hz0)
  clear h hF hm hF2 hn hmk hkey hp hi0 hz0 hok hc hd hr hrm
  unfold PUT
  go_enter Try.func15, Try.ntmps15
  go_wp2_with fail
  refine (none_no g mb _ _ _ (blk_alloc (blk_alloc (blk_alloc HG.out _) _) _)).mono ?_
  rintro e w1 ⟨rfl, rfl⟩
  go_wp2_with fail
  refine (may_calls x A c _ _ (Kd.F_alloc (Kd.F_alloc (Kd.F_alloc HF.out _) _) _)).mono ?_
  rintro e w1 ⟨rfl, hx1⟩
  have hm' := HM.out
  rw [hm']
  clear hm'
  have HG1 := Aside0.mk (hx1.blk (blk_alloc (blk_alloc (blk_alloc HG.out _) _) _) (fun h => h))
  have HK1 := Aside0.mk (hx1.blk (blk_alloc (blk_alloc (blk_new1 w _) _) _) (fun h => h))
  have HV1 := Aside0.mk (hx1.blk (blk_alloc (blk_new2 w _ _) _) (fun h => h))
  have HB1 := Aside0.mk (show w1.heap[w.heap.size + 1 + 1]? = some (.cells #[.int .u8 0, .int .i64 0, .string ⟨#[]⟩, .slice none 0 0, .int .i64 0] 27 (0, 0)) from hx1.blk (blk_new3 w _ _ _) (fun h => h))
  have HX1 := Aside0.mk (((((Ex.refl (fun _ => False) w).alloc _).alloc _).alloc _).trans hx1 (fun _ h => h.elim))
  clear hx1
  have vc0 := (blk_cell HV1.out 0).trans rfl
  have vc1 := (blk_cell HV1.out 1).trans rfl
  have vc2 := (blk_cell HV1.out 2).trans rfl
  have vc3 := (blk_cell HV1.out 3).trans rfl
  have vc4 := (blk_cell HV1.out 4).trans rfl
  have vf0 := blk_frozen HV1.out 0
  have vf1 := blk_frozen HV1.out 1
  have vf2 := blk_frozen HV1.out 2
  have vf3 := blk_frozen HV1.out 3
  have vf4 := blk_frozen HV1.out 4
  have vl := lt_of_blk HV1.out
  go_wp2_with fail
  refine (may_calls y B d _ _ (ex_F HX1.out HF2.out (fun _ _ h => h))).mono ?_
  rintro e w2 ⟨rfl, hx2⟩
  have hm' := HN.out
  rw [hm']
  clear hm'
  have HG2 := Aside0.mk (hx2.blk HG1.out (fun h => h))
  have HK2 := Aside0.mk (hx2.blk HK1.out (fun h => h))
  have HV2 := Aside0.mk (hx2.blk HV1.out (fun h => h))
  have HB2 := Aside0.mk (hx2.blk HB1.out (fun h => h))
  have HX2 := Aside0.mk (HX1.out.trans hx2 (fun _ h => h.elim))
  clear hx2
  clear vc0 vc1 vc2 vc3 vc4 vf0 vf1 vf2 vf3 vf4 vl
  have kc0 := (blk_cell HK2.out 0).trans rfl
  have kc1 := (blk_cell HK2.out 1).trans rfl
  have kc2 := (blk_cell HK2.out 2).trans rfl
  have kc3 := (blk_cell HK2.out 3).trans rfl
  have kc4 := (blk_cell HK2.out 4).trans rfl
  have kf0 := blk_frozen HK2.out 0
  have kf1 := blk_frozen HK2.out 1
  have kf2 := blk_frozen HK2.out 2
  have kf3 := blk_frozen HK2.out 3
  have kf4 := blk_frozen HK2.out 4
  have kl := lt_of_blk HK2.out
  go_wp2_with fail
  refine (find_key' x A c g mb _ _ _ _ HG2.out (ex_F HX2.out HF.out (fun _ _ h => h)) HM.out).mono ?_
  rintro e w3 ⟨m2, h1, h2, hx3, rfl⟩
  have hm2 := HMK.out m2 h1
  subst hm2
  have hk' := HKEY.out.1
  rw [hk']
  clear hk' h2
  have H1 := Aside0.mk h1
  clear h1
  have HG3 := Aside0.mk (hx3.blk HG2.out (fun h => h))
  have HK3 := Aside0.mk (hx3.blk HK2.out (fun h => h))
  have HV3 := Aside0.mk (hx3.blk HV2.out (fun h => h))
  have HB3 := Aside0.mk (hx3.blk HB2.out (fun h => h))
  have HX3 := Aside0.mk (HX2.out.trans hx3 (fun _ h => h.elim))
  have HT3 := Aside0.mk (HT.out.ex0 HX3.out)
  have HF3 := Aside0.mk (ex_F HX3.out HF.out (fun _ _ h => h))
  have HF23 := Aside0.mk (ex_F HX3.out HF2.out (fun _ _ h => h))
  clear hx3
  clear kc0 kc1 kc2 kc3 kc4 kf0 kf1 kf2 kf3 kf4 kl
  obtain ⟨es, cl, hmb, hes⟩ := HT3.out.hm
  have hlk := run_lookup 63 78 Try.underlying63 HI.out.1 HI.out.2 hmb HKEY.out (HT3.out.key_all) (HT3.out.keys_map hes) true
  rw [HP.out, under_row hes HRW.out.1] at hlk
  have hlk' : (Instr.lookup 63 (.map (some mb)) m2.val true).run Try.prog w3 = .ok (.tuple #[.agg #[.int .u8 r.k.f0, .int .i64 r.k.f1, .string r.k.f2, .slice r.A r.k.f3.length r.ca, .int .i64 r.k.f4, .int .u8 r.v.f0, .int .i64 r.v.f1, .string r.v.f2, .slice r.B r.v.f3.length r.cb, .int .i64 r.v.f4, .int .i64 r.n], .bool true]) w3 := hlk
  have HMB3 := Aside0.mk hmb
  have HES := Aside0.mk hes
  clear hlk hmb hes
  obtain ⟨t1, u1, hu1⟩ := m2.val_iface
  rw [hu1]
  rw [hu1] at hlk'
  have HU := Aside0.mk hu1
  clear hu1
  have gc0 := (blk_cell HG3.out 0).trans rfl
  have gc1 := (blk_cell HG3.out 1).trans rfl
  have gc2 := (blk_cell HG3.out 2).trans rfl
  have gf0 := blk_frozen HG3.out 0
  have gf1 := blk_frozen HG3.out 1
  have gf2 := blk_frozen HG3.out 2
  have gl := lt_of_blk HG3.out
  have bc0 := (blk_cell HB3.out 0).trans rfl
  have bc1 := (blk_cell HB3.out 1).trans rfl
  have bc2 := (blk_cell HB3.out 2).trans rfl
  have bc3 := (blk_cell HB3.out 3).trans rfl
  have bc4 := (blk_cell HB3.out 4).trans rfl
  have bf0 := blk_frozen HB3.out 0
  have bf1 := blk_frozen HB3.out 1
  have bf2 := blk_frozen HB3.out 2
  have bf3 := blk_frozen HB3.out 3
  have bf4 := blk_frozen HB3.out 4
  have bl := lt_of_blk HB3.out
  have kc0 := (blk_cell HK3.out 0).trans rfl
  have kc1 := (blk_cell HK3.out 1).trans rfl
  have kc2 := (blk_cell HK3.out 2).trans rfl
  have kc3 := (blk_cell HK3.out 3).trans rfl
  have kc4 := (blk_cell HK3.out 4).trans rfl
  have kf0 := blk_frozen HK3.out 0
  have kf1 := blk_frozen HK3.out 1
  have kf2 := blk_frozen HK3.out 2
  have kf3 := blk_frozen HK3.out 3
  have kf4 := blk_frozen HK3.out 4
  have kl := lt_of_blk HK3.out
  have vc0 := (blk_cell HV3.out 0).trans rfl
  have vc1 := (blk_cell HV3.out 1).trans rfl
  have vc2 := (blk_cell HV3.out 2).trans rfl
  have vc3 := (blk_cell HV3.out 3).trans rfl
  have vc4 := (blk_cell HV3.out 4).trans rfl
  have vf0 := blk_frozen HV3.out 0
  have vf1 := blk_frozen HV3.out 1
  have vf2 := blk_frozen HV3.out 2
  have vf3 := blk_frozen HV3.out 3
  have vf4 := blk_frozen HV3.out 4
  have vl := lt_of_blk HV3.out
  have hg0 : g < w.heap.size := lt_of_blk HG.out
  go_wp2_with fail
  have HX35 := Aside0.mk ((ex_put27 (Ex.refl (fun b => b = w.heap.size + 1 + 1) w3) (.inl rfl) (.int .u8 r.v.f0) (.int .i64 r.v.f1) (.string r.v.f2) (.slice r.B r.v.f3.length r.cb) (.int .i64 r.v.f4)).alloc (.cells #[.int .u8 r.k.f0, .int .i64 r.k.f1, .string r.k.f2, .slice r.A r.k.f3.length r.ca, .int .i64 r.k.f4, .int .u8 r.v.f0, .int .i64 r.v.f1, .string r.v.f2, .slice r.B r.v.f3.length r.cb, .int .i64 r.v.f4, .int .i64 r.n] 78))
  have HP5 := Aside0.mk (show ((((((w3.setCell ⟨w.heap.size + 1 + 1, 0, none⟩ (.int .u8 r.v.f0)).setCell ⟨w.heap.size + 1 + 1, 1, none⟩ (.int .i64 r.v.f1)).setCell ⟨w.heap.size + 1 + 1, 2, none⟩ (.string r.v.f2)).setCell ⟨w.heap.size + 1 + 1, 3, none⟩ (.slice r.B r.v.f3.length r.cb)).setCell ⟨w.heap.size + 1 + 1, 4, none⟩ (.int .i64 r.v.f4)).alloc (.cells #[.int .u8 r.k.f0, .int .i64 r.k.f1, .string r.k.f2, .slice r.A r.k.f3.length r.ca, .int .i64 r.k.f4, .int .u8 r.v.f0, .int .i64 r.v.f1, .string r.v.f2, .slice r.B r.v.f3.length r.cb, .int .i64 r.v.f4, .int .i64 r.n] 78)).heap[w3.heap.size]? = some (.cells #[.int .u8 r.k.f0, .int .i64 r.k.f1, .string r.k.f2, .slice r.A r.k.f3.length r.ca, .int .i64 r.k.f4, .int .u8 r.v.f0, .int .i64 r.v.f1, .string r.v.f2, .slice r.B r.v.f3.length r.cb, .int .i64 r.v.f4, .int .i64 r.n] 78 (0, 0)) from by
    have h := blk_new1 (((((w3.setCell ⟨w.heap.size + 1 + 1, 0, none⟩ (.int .u8 r.v.f0)).setCell ⟨w.heap.size + 1 + 1, 1, none⟩ (.int .i64 r.v.f1)).setCell ⟨w.heap.size + 1 + 1, 2, none⟩ (.string r.v.f2)).setCell ⟨w.heap.size + 1 + 1, 3, none⟩ (.slice r.B r.v.f3.length r.cb)).setCell ⟨w.heap.size + 1 + 1, 4, none⟩ (.int .i64 r.v.f4)) (.cells #[.int .u8 r.k.f0, .int .i64 r.k.f1, .string r.k.f2, .slice r.A r.k.f3.length r.ca, .int .i64 r.k.f4, .int .u8 r.v.f0, .int .i64 r.v.f1, .string r.v.f2, .slice r.B r.v.f3.length r.cb, .int .i64 r.v.f4, .int .i64 r.n] 78)
    rw [show (((((w3.setCell ⟨w.heap.size + 1 + 1, 0, none⟩ (.int .u8 r.v.f0)).setCell ⟨w.heap.size + 1 + 1, 1, none⟩ (.int .i64 r.v.f1)).setCell ⟨w.heap.size + 1 + 1, 2, none⟩ (.string r.v.f2)).setCell ⟨w.heap.size + 1 + 1, 3, none⟩ (.slice r.B r.v.f3.length r.cb)).setCell ⟨w.heap.size + 1 + 1, 4, none⟩ (.int .i64 r.v.f4)).heap.size = w3.heap.size by simp [World.setCell]] at h
    exact h)
  have HB5 := Aside0.mk (blk_alloc (put27 HB3.out rfl (.int .u8 r.v.f0) (.int .i64 r.v.f1) (.string r.v.f2) (.slice r.B r.v.f3.length r.cb) (.int .i64 r.v.f4)) (.cells #[.int .u8 r.k.f0, .int .i64 r.k.f1, .string r.k.f2, .slice r.A r.k.f3.length r.ca, .int .i64 r.k.f4, .int .u8 r.v.f0, .int .i64 r.v.f1, .string r.v.f2, .slice r.B r.v.f3.length r.cb, .int .i64 r.v.f4, .int .i64 r.n] 78))
  refine (own_calls y B d _ (fun k => ok k ∧ k < w.heap.size) HC.out.2 (ex_F HX35.out HF23.out (fun b hb => show ¬ b = w.heap.size + 1 + 1 by have := hb.2; omega)) HN.out).mono ?_
  rintro e w7 ⟨v, rfl, B1, d1, rfl, l2, hR2, hx7⟩
  have HL2 := Aside0.mk l2
  have HX37 := Aside0.mk (HX35.out.trans hx7 (fun _ h => h.elim))
  have HB7 := Aside0.mk (hx7.blk HB5.out (fun h => h))
  have HP7 := Aside0.mk (hx7.blk HP5.out (fun h => h))
  have HR29 := Aside0.mk hR2
  have hs8 : w3.heap.size < (((((((w3.setCell ⟨w.heap.size + 1 + 1, 0, none⟩ (.int .u8 r.v.f0)).setCell ⟨w.heap.size + 1 + 1, 1, none⟩ (.int .i64 r.v.f1)).setCell ⟨w.heap.size + 1 + 1, 2, none⟩ (.string r.v.f2)).setCell ⟨w.heap.size + 1 + 1, 3, none⟩ (.slice r.B r.v.f3.length r.cb)).setCell ⟨w.heap.size + 1 + 1, 4, none⟩ (.int .i64 r.v.f4)).alloc (.cells #[.int .u8 r.k.f0, .int .i64 r.k.f1, .string r.k.f2, .slice r.A r.k.f3.length r.ca, .int .i64 r.k.f4, .int .u8 r.v.f0, .int .i64 r.v.f1, .string r.v.f2, .slice r.B r.v.f3.length r.cb, .int .i64 r.v.f4, .int .i64 r.n] 78))).heap.size := lt_of_blk HP5.out
  clear HX35 HB5 HP5 hx7 hR2 l2
  generalize ((((((w3.setCell ⟨w.heap.size + 1 + 1, 0, none⟩ (.int .u8 r.v.f0)).setCell ⟨w.heap.size + 1 + 1, 1, none⟩ (.int .i64 r.v.f1)).setCell ⟨w.heap.size + 1 + 1, 2, none⟩ (.string r.v.f2)).setCell ⟨w.heap.size + 1 + 1, 3, none⟩ (.slice r.B r.v.f3.length r.cb)).setCell ⟨w.heap.size + 1 + 1, 4, none⟩ (.int .i64 r.v.f4)).alloc (.cells #[.int .u8 r.k.f0, .int .i64 r.k.f1, .string r.k.f2, .slice r.A r.k.f3.length r.ca, .int .i64 r.k.f4, .int .u8 r.v.f0, .int .i64 r.v.f1, .string r.v.f2, .slice r.B r.v.f3.length r.cb, .int .i64 r.v.f4, .int .i64 r.n] 78)) = w5 at HR29 hs8
  clear gc0 gc1 gc2 gf0 gf1 gf2 gl
  clear bc0 bc1 bc2 bc3 bc4 bf0 bf1 bf2 bf3 bf4 bl
  clear kc0 kc1 kc2 kc3 kc4 kf0 kf1 kf2 kf3 kf4 kl
  clear vc0 vc1 vc2 vc3 vc4 vf0 vf1 vf2 vf3 vf4 vl
  have HG7 := Aside0.mk (HX37.out.blk HG3.out (show ¬ g = w.heap.size + 1 + 1 by omega))
  have HMB7 := Aside0.mk (HX37.out.blk HMB3.out (show ¬ mb = w.heap.size + 1 + 1 by rintro rfl; exact absurd (HMB3.out.symm.trans HB3.out) (by simp)))
  have gc0 := (blk_cell HG7.out 0).trans rfl
  have gc1 := (blk_cell HG7.out 1).trans rfl
  have gc2 := (blk_cell HG7.out 2).trans rfl
  have gf0 := blk_frozen HG7.out 0
  have gf1 := blk_frozen HG7.out 1
  have gf2 := blk_frozen HG7.out 2
  have gl := lt_of_blk HG7.out
  have pc0 := (blk_cell HP7.out 0).trans rfl
  have pc1 := (blk_cell HP7.out 1).trans rfl
  have pc2 := (blk_cell HP7.out 2).trans rfl
  have pc3 := (blk_cell HP7.out 3).trans rfl
  have pc4 := (blk_cell HP7.out 4).trans rfl
  have pc5 := (blk_cell HP7.out 5).trans rfl
  have pc6 := (blk_cell HP7.out 6).trans rfl
  have pc7 := (blk_cell HP7.out 7).trans rfl
  have pc8 := (blk_cell HP7.out 8).trans rfl
  have pc9 := (blk_cell HP7.out 9).trans rfl
  have pc10 := (blk_cell HP7.out 10).trans rfl
  have pf0 := blk_frozen HP7.out 0
  have pf1 := blk_frozen HP7.out 1
  have pf2 := blk_frozen HP7.out 2
  have pf3 := blk_frozen HP7.out 3
  have pf4 := blk_frozen HP7.out 4
  have pf5 := blk_frozen HP7.out 5
  have pf6 := blk_frozen HP7.out 6
  have pf7 := blk_frozen HP7.out 7
  have pf8 := blk_frozen HP7.out 8
  have pf9 := blk_frozen HP7.out 9
  have pf10 := blk_frozen HP7.out 10
  have pl := lt_of_blk HP7.out
  have bc0 := (blk_cell HB7.out 0).trans rfl
  have bc1 := (blk_cell HB7.out 1).trans rfl
  have bc2 := (blk_cell HB7.out 2).trans rfl
  have bc3 := (blk_cell HB7.out 3).trans rfl
  have bc4 := (blk_cell HB7.out 4).trans rfl
  have bf0 := blk_frozen HB7.out 0
  have bf1 := blk_frozen HB7.out 1
  have bf2 := blk_frozen HB7.out 2
  have bf3 := blk_frozen HB7.out 3
  have bf4 := blk_frozen HB7.out 4
  have bl := lt_of_blk HB7.out
  go_wp2_with fail
  clear gc0 gc1 gc2 gf0 gf1 gf2 gl
  clear pc0 pc1 pc2 pc3 pc4 pc5 pc6 pc7 pc8 pc9 pc10 pf0 pf1 pf2 pf3 pf4 pf5 pf6 pf7 pf8 pf9 pf10 pl
  clear bc0 bc1 bc2 bc3 bc4 bf0 bf1 bf2 bf3 bf4 bl
  have HX78 := Aside0.mk (ex_put78v (Ex.refl (fun b => b = w3.heap.size) w7) (.inl rfl) (.int .u8 y.f0) (.int .i64 y.f1) (.string y.f2) (.slice B1 y.f3.length d1) (.int .i64 y.f4))
  have HP8 := Aside0.mk (put78v HP7.out (.int .u8 y.f0) (.int .i64 y.f1) (.string y.f2) (.slice B1 y.f3.length d1) (.int .i64 y.f4))
  generalize (((((w7.setCell ⟨w3.heap.size, 5, none⟩ (.int .u8 y.f0)).setCell ⟨w3.heap.size, 6, none⟩ (.int .i64 y.f1)).setCell ⟨w3.heap.size, 7, none⟩ (.string y.f2)).setCell ⟨w3.heap.size, 8, none⟩ (.slice B1 y.f3.length d1)).setCell ⟨w3.heap.size, 9, none⟩ (.int .i64 y.f4)) = w8 at HX78 HP8 ⊢
  have HG8 := Aside0.mk (HX78.out.blk HG7.out (show ¬ g = w3.heap.size by have := HX3.out.size; omega))
  have HB8 := Aside0.mk (HX78.out.blk HB7.out (show ¬ w.heap.size + 1 + 1 = w3.heap.size by have := lt_of_blk HB3.out; omega))
  have HMB8 := Aside0.mk (HX78.out.blk HMB7.out (show ¬ mb = w3.heap.size by have := lt_of_blk HMB3.out; omega))
  have HPUT := run_old (blk_drew HMB8.out) HKEY.out (HT3.out.key_all) (HT3.out.keys_map HES.out) HP.out (.agg #[.int .u8 r.k.f0, .int .i64 r.k.f1, .string r.k.f2, .slice r.A r.k.f3.length r.ca, .int .i64 r.k.f4, .int .u8 y.f0, .int .i64 y.f1, .string y.f2, .slice B1 y.f3.length d1, .int .i64 y.f4, .int .i64 r.n])
  rw [HU.out] at HPUT
  have HX89 := Aside0.mk (ex_setB ((Ex.refl (fun b => b = mb) w8).drew) (.inl rfl) (.map (es.modify j fun e => { e with key := .iface t1 u1, val := .agg #[.int .u8 r.k.f0, .int .i64 r.k.f1, .string r.k.f2, .slice r.A r.k.f3.length r.ca, .int .i64 r.k.f4, .int .u8 y.f0, .int .i64 y.f1, .string y.f2, .slice B1 y.f3.length d1, .int .i64 y.f4, .int .i64 r.n] }) cl))
  have HMB9 := Aside0.mk (setB_blk (o' := .map (es.modify j fun e => { e with key := .iface t1 u1, val := .agg #[.int .u8 r.k.f0, .int .i64 r.k.f1, .string r.k.f2, .slice r.A r.k.f3.length r.ca, .int .i64 r.k.f4, .int .u8 y.f0, .int .i64 y.f1, .string y.f2, .slice B1 y.f3.length d1, .int .i64 y.f4, .int .i64 r.n] }) cl) (blk_drew HMB8.out))
  generalize setB w8.drew mb (.map (es.modify j fun e => { e with key := .iface t1 u1, val := .agg #[.int .u8 r.k.f0, .int .i64 r.k.f1, .string r.k.f2, .slice r.A r.k.f3.length r.ca, .int .i64 r.k.f4, .int .u8 y.f0, .int .i64 y.f1, .string y.f2, .slice B1 y.f3.length d1, .int .i64 y.f4, .int .i64 r.n] }) cl) = w9 at HPUT HX89 HMB9
  have gc0 := (blk_cell HG8.out 0).trans rfl
  have gc1 := (blk_cell HG8.out 1).trans rfl
  have gc2 := (blk_cell HG8.out 2).trans rfl
  have gf0 := blk_frozen HG8.out 0
  have gf1 := blk_frozen HG8.out 1
  have gf2 := blk_frozen HG8.out 2
  have gl := lt_of_blk HG8.out
  have pc0 := (blk_cell HP8.out 0).trans rfl
  have pc1 := (blk_cell HP8.out 1).trans rfl
  have pc2 := (blk_cell HP8.out 2).trans rfl
  have pc3 := (blk_cell HP8.out 3).trans rfl
  have pc4 := (blk_cell HP8.out 4).trans rfl
  have pc5 := (blk_cell HP8.out 5).trans rfl
  have pc6 := (blk_cell HP8.out 6).trans rfl
  have pc7 := (blk_cell HP8.out 7).trans rfl
  have pc8 := (blk_cell HP8.out 8).trans rfl
  have pc9 := (blk_cell HP8.out 9).trans rfl
  have pc10 := (blk_cell HP8.out 10).trans rfl
  have pf0 := blk_frozen HP8.out 0
  have pf1 := blk_frozen HP8.out 1
  have pf2 := blk_frozen HP8.out 2
  have pf3 := blk_frozen HP8.out 3
  have pf4 := blk_frozen HP8.out 4
  have pf5 := blk_frozen HP8.out 5
  have pf6 := blk_frozen HP8.out 6
  have pf7 := blk_frozen HP8.out 7
  have pf8 := blk_frozen HP8.out 8
  have pf9 := blk_frozen HP8.out 9
  have pf10 := blk_frozen HP8.out 10
  have pl := lt_of_blk HP8.out
  go_region
  clear HPUT
  clear gc0 gc1 gc2 gf0 gf1 gf2 gl
  clear pc0 pc1 pc2 pc3 pc4 pc5 pc6 pc7 pc8 pc9 pc10 pf0 pf1 pf2 pf3 pf4 pf5 pf6 pf7 pf8 pf9 pf10 pl
  have HB9 := Aside0.mk (HX89.out.blk HB8.out (fun e => by rw [← e] at HMB8; exact absurd (HMB8.out.symm.trans HB8.out) (by simp)))
  have bc0 := (blk_cell HB9.out 0).trans rfl
  have bc1 := (blk_cell HB9.out 1).trans rfl
  have bc2 := (blk_cell HB9.out 2).trans rfl
  have bc3 := (blk_cell HB9.out 3).trans rfl
  have bc4 := (blk_cell HB9.out 4).trans rfl
  have bf0 := blk_frozen HB9.out 0
  have bf1 := blk_frozen HB9.out 1
  have bf2 := blk_frozen HB9.out 2
  have bf3 := blk_frozen HB9.out 3
  have bf4 := blk_frozen HB9.out 4
  have bl := lt_of_blk HB9.out
  go_wp2_with fail
  have HX910 := Aside0.mk (ex_put27 (Ex.refl (fun b => b = w.heap.size + 1 + 1) w9) (.inl rfl) (.int .u8 r.v.f0) (.int .i64 r.v.f1) (.string r.v.f2) (.slice r.B r.v.f3.length r.cb) (.int .i64 r.v.f4))
  refine bodyPost_ret (results_row_tmp2 rfl _ _ (w.heap.size + 1 + 1) 27 _ (0, 0) _ rfl (put27 HB9.out rfl _ _ _ _ _) Try.underlying27 rfl size27) rfl ?_
  refine ⟨rfl, ?_⟩
  clear bc0 bc1 bc2 bc3 bc4 bf0 bf1 bf2 bf3 bf4 bl
  generalize (((((w9.setCell ⟨w.heap.size + 1 + 1, 0, none⟩ (.int .u8 r.v.f0)).setCell ⟨w.heap.size + 1 + 1, 1, none⟩ (.int .i64 r.v.f1)).setCell ⟨w.heap.size + 1 + 1, 2, none⟩ (.string r.v.f2)).setCell ⟨w.heap.size + 1 + 1, 3, none⟩ (.slice r.B r.v.f3.length r.cb)).setCell ⟨w.heap.size + 1 + 1, 4, none⟩ (.int .i64 r.v.f4)) = w10 at HX910 ⊢
  exact put_old_end HT.out HX3.out HX37.out HX78.out HX89.out HX910.out (lt_of_blk HB3.out) HRW.out.1 HRW.out.2 HMB9.out HES.out HU.out HN.out HL2.out HR29.out hs8 HMB3.out
end Go.Proofs.Ythkemcekcfccpaa.PBrandCompares
end
section
namespace Go.Proofs.Ythkemcekcfccpaa.PBrandCompares
open Go.RowKit Go.Proofs.YthkemcekcfccpaaW.PrintWords Go.Proofs.YthkemcekcfccpaaW.PrintLast Go.Proofs.YthkemcekcfccpaaW.PrintMore
open Go.Proofs.Ythkemcekcfccpaa.GBrandCompares
set_option linter.unusedVariables false
set_option linter.unusedSimpArgs false
set_option maxRecDepth 100000 in
set_option maxHeartbeats 4000000 in
theorem put_new (x y : S27) (A B : Option Addr) (c d g mb ob : Nat) (T ok : Nat → Prop) (rows : List Row) (came : Nat) (w : World) (h : Tab w g mb ob T rows came) (hcame : came < 1000000000) (hc : x.f3.length ≤ c) (hd : y.f3.length ≤ d) (hF : Kd.F k27 w ok A x.f3.length x.f3) (hF2 : Kd.F k27 w ok B y.f3.length y.f3) (hok : ∀ b, ok b → ¬ T b) (hm : mayV x = true) (hn : mayV y = true) (m : Mk) (hmk : ∀ m2, MarkOf x m2 → m2 = m) (hkey : Key m) (hp : posMk m (rows.map (·.m)) = none) : PUT x y A B c d g w fun e w' => e = .returned (.tuple #[zval, .bool false, .int .i64 0]) ∧ Ex (fun b => b = g ∨ b = mb ∨ b = ob) w w' ∧ ∃ r : Row, r.m = m ∧ r.k = x ∧ r.v = y ∧ r.n = came + 1 ∧ Tab w' g mb ob (fun b => T b ∨ w.heap.size ≤ b) (rows ++ [r]) (came + 1) := by
  have HT := Aside0.mk h
  have HG := Aside0.mk h.hg
  have HF := Aside0.mk (Kd.F_bound hF)
  have HF2 := Aside0.mk (Kd.F_bound hF2)
  have HM := Aside0.mk hm
  have HN := Aside0.mk hn
  have HMK := Aside0.mk hmk
  have HKEY := Aside0.mk hkey
  have HOK := Aside0.mk hok
  have HC := Aside0.mk (And.intro hc hd)
  have HP := Aside0.mk hp
  obtain ⟨i0, hi0, hz0, _, _⟩ := info_parts info78
  have HI := Aside0.mk (And.intro hi0 hz0)
  clear h hF hm hF2 hn hmk hkey hp hi0 hz0 hok hc hd
  unfold PUT
  go_enter Try.func15, Try.ntmps15
  go_wp2_with fail
  refine (none_no g mb _ _ _ (blk_alloc (blk_alloc (blk_alloc HG.out _) _) _)).mono ?_
  rintro e w1 ⟨rfl, rfl⟩
  go_wp2_with fail
  refine (may_calls x A c _ _ (Kd.F_alloc (Kd.F_alloc (Kd.F_alloc HF.out _) _) _)).mono ?_
  rintro e w1 ⟨rfl, hx1⟩
  have hm' := HM.out
  rw [hm']
  clear hm'
  have HG1 := Aside0.mk (hx1.blk (blk_alloc (blk_alloc (blk_alloc HG.out _) _) _) (fun h => h))
  have HK1 := Aside0.mk (hx1.blk (blk_alloc (blk_alloc (blk_new1 w _) _) _) (fun h => h))
  have HV1 := Aside0.mk (hx1.blk (blk_alloc (blk_new2 w _ _) _) (fun h => h))
  have HB1 := Aside0.mk (show w1.heap[w.heap.size + 1 + 1]? = some (.cells #[.int .u8 0, .int .i64 0, .string ⟨#[]⟩, .slice none 0 0, .int .i64 0] 27 (0, 0)) from hx1.blk (blk_new3 w _ _ _) (fun h => h))
  have HX1 := Aside0.mk (((((Ex.refl (fun _ => False) w).alloc _).alloc _).alloc _).trans hx1 (fun _ h => h.elim))
  clear hx1
  have vc0 := (blk_cell HV1.out 0).trans rfl
  have vc1 := (blk_cell HV1.out 1).trans rfl
  have vc2 := (blk_cell HV1.out 2).trans rfl
  have vc3 := (blk_cell HV1.out 3).trans rfl
  have vc4 := (blk_cell HV1.out 4).trans rfl
  have vf0 := blk_frozen HV1.out 0
  have vf1 := blk_frozen HV1.out 1
  have vf2 := blk_frozen HV1.out 2
  have vf3 := blk_frozen HV1.out 3
  have vf4 := blk_frozen HV1.out 4
  have vl := lt_of_blk HV1.out
  go_wp2_with fail
  refine (may_calls y B d _ _ (ex_F HX1.out HF2.out (fun _ _ h => h))).mono ?_
  rintro e w2 ⟨rfl, hx2⟩
  have hm' := HN.out
  rw [hm']
  clear hm'
  have HG2 := Aside0.mk (hx2.blk HG1.out (fun h => h))
  have HK2 := Aside0.mk (hx2.blk HK1.out (fun h => h))
  have HV2 := Aside0.mk (hx2.blk HV1.out (fun h => h))
  have HB2 := Aside0.mk (hx2.blk HB1.out (fun h => h))
  have HX2 := Aside0.mk (HX1.out.trans hx2 (fun _ h => h.elim))
  clear hx2
  clear vc0 vc1 vc2 vc3 vc4 vf0 vf1 vf2 vf3 vf4 vl
  have kc0 := (blk_cell HK2.out 0).trans rfl
  have kc1 := (blk_cell HK2.out 1).trans rfl
  have kc2 := (blk_cell HK2.out 2).trans rfl
  have kc3 := (blk_cell HK2.out 3).trans rfl
  have kc4 := (blk_cell HK2.out 4).trans rfl
  have kf0 := blk_frozen HK2.out 0
  have kf1 := blk_frozen HK2.out 1
  have kf2 := blk_frozen HK2.out 2
  have kf3 := blk_frozen HK2.out 3
  have kf4 := blk_frozen HK2.out 4
  have kl := lt_of_blk HK2.out
  go_wp2_with fail
  refine (find_key' x A c g mb _ _ _ _ HG2.out (ex_F HX2.out HF.out (fun _ _ h => h)) HM.out).mono ?_
  rintro e w3 ⟨m2, h1, h2, hx3, rfl⟩
  have hm2 := HMK.out m2 h1
  subst hm2
  have hk' := HKEY.out.1
  rw [hk']
  clear hk' h2
  have H1 := Aside0.mk h1
  clear h1
  have HG3 := Aside0.mk (hx3.blk HG2.out (fun h => h))
  have HK3 := Aside0.mk (hx3.blk HK2.out (fun h => h))
  have HV3 := Aside0.mk (hx3.blk HV2.out (fun h => h))
  have HB3 := Aside0.mk (hx3.blk HB2.out (fun h => h))
  have HX3 := Aside0.mk (HX2.out.trans hx3 (fun _ h => h.elim))
  have HT3 := Aside0.mk (HT.out.ex0 HX3.out)
  have HF3 := Aside0.mk (ex_F HX3.out HF.out (fun _ _ h => h))
  have HF23 := Aside0.mk (ex_F HX3.out HF2.out (fun _ _ h => h))
  clear hx3
  clear kc0 kc1 kc2 kc3 kc4 kf0 kf1 kf2 kf3 kf4 kl
  obtain ⟨es, cl, hmb, hes⟩ := HT3.out.hm
  have hlk := run_lookup 63 78 Try.underlying63 HI.out.1 HI.out.2 hmb HKEY.out (HT3.out.key_all) (HT3.out.keys_map hes) true
  rw [HP.out] at hlk
  have hlk' : (Instr.lookup 63 (.map (some mb)) m2.val true).run Try.prog w3 = .ok (.tuple #[.agg #[.int .u8 0, .int .i64 0, .string ⟨#[]⟩, .slice none 0 0, .int .i64 0, .int .u8 0, .int .i64 0, .string ⟨#[]⟩, .slice none 0 0, .int .i64 0, .int .i64 0], .bool false]) w3 := hlk
  have HMB3 := Aside0.mk hmb
  have HES := Aside0.mk hes
  clear hlk hmb hes
  obtain ⟨t1, u1, hu1⟩ := m2.val_iface
  rw [hu1]
  rw [hu1] at hlk'
  have HU := Aside0.mk hu1
  clear hu1
  have hcm : (came : Int) < 1000000000 := by omega
  have hcm0 : (0 : Int) ≤ (came : Int) := by omega
  have gc0 := (blk_cell HG3.out 0).trans rfl
  have gc1 := (blk_cell HG3.out 1).trans rfl
  have gc2 := (blk_cell HG3.out 2).trans rfl
  have gf0 := blk_frozen HG3.out 0
  have gf1 := blk_frozen HG3.out 1
  have gf2 := blk_frozen HG3.out 2
  have gl := lt_of_blk HG3.out
  have bc0 := (blk_cell HB3.out 0).trans rfl
  have bc1 := (blk_cell HB3.out 1).trans rfl
  have bc2 := (blk_cell HB3.out 2).trans rfl
  have bc3 := (blk_cell HB3.out 3).trans rfl
  have bc4 := (blk_cell HB3.out 4).trans rfl
  have bf0 := blk_frozen HB3.out 0
  have bf1 := blk_frozen HB3.out 1
  have bf2 := blk_frozen HB3.out 2
  have bf3 := blk_frozen HB3.out 3
  have bf4 := blk_frozen HB3.out 4
  have bl := lt_of_blk HB3.out
  have kc0 := (blk_cell HK3.out 0).trans rfl
  have kc1 := (blk_cell HK3.out 1).trans rfl
  have kc2 := (blk_cell HK3.out 2).trans rfl
  have kc3 := (blk_cell HK3.out 3).trans rfl
  have kc4 := (blk_cell HK3.out 4).trans rfl
  have kf0 := blk_frozen HK3.out 0
  have kf1 := blk_frozen HK3.out 1
  have kf2 := blk_frozen HK3.out 2
  have kf3 := blk_frozen HK3.out 3
  have kf4 := blk_frozen HK3.out 4
  have kl := lt_of_blk HK3.out
  go_wp2_with fail
  clear gc0 gc1 gc2 gf0 gf1 gf2 gl
  clear bc0 bc1 bc2 bc3 bc4 bf0 bf1 bf2 bf3 bf4 bl
  clear kc0 kc1 kc2 kc3 kc4 kf0 kf1 kf2 kf3 kf4 kl
  have hgl := lt_of_blk HG3.out
  have hbl := lt_of_blk HB3.out
  have hg0 : g < w.heap.size := lt_of_blk HG.out
  have HG4 := Aside0.mk (blk_alloc (blk_put HG3.out 2 (.int .i64 ((came : Int) + 1)) rfl) (.cells #[.int .u8 0, .int .i64 0, .string ⟨#[]⟩, .slice none 0 0, .int .i64 0, .int .u8 0, .int .i64 0, .string ⟨#[]⟩, .slice none 0 0, .int .i64 0, .int .i64 0] 78))
  have HP4 := Aside0.mk (show ((w3.setCell ⟨g, 2, none⟩ (.int .i64 ((came : Int) + 1))).alloc (.cells #[.int .u8 0, .int .i64 0, .string ⟨#[]⟩, .slice none 0 0, .int .i64 0, .int .u8 0, .int .i64 0, .string ⟨#[]⟩, .slice none 0 0, .int .i64 0, .int .i64 0] 78)).heap[w3.heap.size]? = some (.cells #[.int .u8 0, .int .i64 0, .string ⟨#[]⟩, .slice none 0 0, .int .i64 0, .int .u8 0, .int .i64 0, .string ⟨#[]⟩, .slice none 0 0, .int .i64 0, .int .i64 0] 78 (0, 0)) from by
    have h := blk_new1 (w3.setCell ⟨g, 2, none⟩ (.int .i64 ((came : Int) + 1))) (.cells #[.int .u8 0, .int .i64 0, .string ⟨#[]⟩, .slice none 0 0, .int .i64 0, .int .u8 0, .int .i64 0, .string ⟨#[]⟩, .slice none 0 0, .int .i64 0, .int .i64 0] 78)
    rw [show (w3.setCell ⟨g, 2, none⟩ (.int .i64 ((came : Int) + 1))).heap.size = w3.heap.size by simp [World.setCell]] at h
    exact h)
  have HX4 := Aside0.mk (((Ex.refl (fun b => b = g) w3).set (p := ⟨g, 2, none⟩) (.inl rfl) (.int .i64 ((came : Int) + 1))).alloc (.cells #[.int .u8 0, .int .i64 0, .string ⟨#[]⟩, .slice none 0 0, .int .i64 0, .int .u8 0, .int .i64 0, .string ⟨#[]⟩, .slice none 0 0, .int .i64 0, .int .i64 0] 78))
  have HK4 := Aside0.mk (HX4.out.blk HK3.out (show ¬ w.heap.size = g by omega))
  have HV4 := Aside0.mk (HX4.out.blk HV3.out (show ¬ w.heap.size + 1 = g by omega))
  have HB4 := Aside0.mk (HX4.out.blk HB3.out (show ¬ w.heap.size + 1 + 1 = g by omega))
  have HMB4 := Aside0.mk (HX4.out.blk HMB3.out (fun e => by rw [e] at HMB3; exact absurd (HMB3.out.symm.trans HG3.out) (by simp)))
  obtain ⟨es2, cl2, hob, hes2⟩ := HT3.out.ho
  have HOB4 := Aside0.mk (HX4.out.blk hob (fun e => by rw [e] at hob; exact absurd (hob.symm.trans HG3.out) (by simp)))
  have HOB3 := Aside0.mk hob
  have HES2 := Aside0.mk hes2
  clear hob hes2
  have HF4 := Aside0.mk (ex_F HX4.out HF3.out (fun b hb e => HOK.out b hb.1 (by rw [e]; exact HT.out.tg)))
  have HF24 := Aside0.mk (ex_F HX4.out HF23.out (fun b hb e => HOK.out b hb.1 (by rw [e]; exact HT.out.tg)))
  generalize ((w3.setCell ⟨g, 2, none⟩ (.int .i64 ((came : Int) + 1))).alloc (.cells #[.int .u8 0, .int .i64 0, .string ⟨#[]⟩, .slice none 0 0, .int .i64 0, .int .u8 0, .int .i64 0, .string ⟨#[]⟩, .slice none 0 0, .int .i64 0, .int .i64 0] 78)) = w4 at HG4 HP4 HX4 HK4 HV4 HB4 HMB4 HOB4 HF4 HF24 ⊢
  have gc0 := (blk_cell HG4.out 0).trans rfl
  have gc1 := (blk_cell HG4.out 1).trans rfl
  have gc2 := (blk_cell HG4.out 2).trans rfl
  have gf0 := blk_frozen HG4.out 0
  have gf1 := blk_frozen HG4.out 1
  have gf2 := blk_frozen HG4.out 2
  have gl := lt_of_blk HG4.out
  have kc0 := (blk_cell HK4.out 0).trans rfl
  have kc1 := (blk_cell HK4.out 1).trans rfl
  have kc2 := (blk_cell HK4.out 2).trans rfl
  have kc3 := (blk_cell HK4.out 3).trans rfl
  have kc4 := (blk_cell HK4.out 4).trans rfl
  have kf0 := blk_frozen HK4.out 0
  have kf1 := blk_frozen HK4.out 1
  have kf2 := blk_frozen HK4.out 2
  have kf3 := blk_frozen HK4.out 3
  have kf4 := blk_frozen HK4.out 4
  have kl := lt_of_blk HK4.out
  have pc0 := (blk_cell HP4.out 0).trans rfl
  have pc1 := (blk_cell HP4.out 1).trans rfl
  have pc2 := (blk_cell HP4.out 2).trans rfl
  have pc3 := (blk_cell HP4.out 3).trans rfl
  have pc4 := (blk_cell HP4.out 4).trans rfl
  have pc5 := (blk_cell HP4.out 5).trans rfl
  have pc6 := (blk_cell HP4.out 6).trans rfl
  have pc7 := (blk_cell HP4.out 7).trans rfl
  have pc8 := (blk_cell HP4.out 8).trans rfl
  have pc9 := (blk_cell HP4.out 9).trans rfl
  have pc10 := (blk_cell HP4.out 10).trans rfl
  have pf0 := blk_frozen HP4.out 0
  have pf1 := blk_frozen HP4.out 1
  have pf2 := blk_frozen HP4.out 2
  have pf3 := blk_frozen HP4.out 3
  have pf4 := blk_frozen HP4.out 4
  have pf5 := blk_frozen HP4.out 5
  have pf6 := blk_frozen HP4.out 6
  have pf7 := blk_frozen HP4.out 7
  have pf8 := blk_frozen HP4.out 8
  have pf9 := blk_frozen HP4.out 9
  have pf10 := blk_frozen HP4.out 10
  have pl := lt_of_blk HP4.out
  go_region_law (first
    | (refine goes_ Try.func40 (by kernel_rfl) rfl #[.agg #[.int .u8 x.f0, .int .i64 x.f1, .string x.f2, .slice A x.f3.length c, .int .i64 x.f4]] (by rfl) rfl rfl (by (try simp only [List.map_toArray, List.map_cons, List.map_nil]); first | done | rfl) ?_; refine (own_calls x A c _ (fun k => ok k ∧ k < w.heap.size) HC.out.1 ?_ HM.out).mono ?_; exact Kd.F_drew HF4.out; rintro e w5 ⟨v, rfl, A1, c1, rfl, l1, hR, hx5⟩; refine ⟨_, rfl, ?_⟩; have HR5 := Aside0.mk (And.intro l1 hR); have HG5 := Aside0.mk (hx5.blk (blk_drew HG4.out) (fun h => h)); have HP5 := Aside0.mk (hx5.blk (blk_drew HP4.out) (fun h => h)); have HX5 := Aside0.mk hx5; clear l1 hR hx5; have qc0 := (blk_cell HG5.out 0).trans rfl; have qc1 := (blk_cell HG5.out 1).trans rfl; have qc2 := (blk_cell HG5.out 2).trans rfl; have qf0 := blk_frozen HG5.out 0; have qf1 := blk_frozen HG5.out 1; have qf2 := blk_frozen HG5.out 2; have ql := lt_of_blk HG5.out; have rc0 := (blk_cell HP5.out 0).trans rfl; have rc1 := (blk_cell HP5.out 1).trans rfl; have rc2 := (blk_cell HP5.out 2).trans rfl; have rc3 := (blk_cell HP5.out 3).trans rfl; have rc4 := (blk_cell HP5.out 4).trans rfl; have rc5 := (blk_cell HP5.out 5).trans rfl; have rc6 := (blk_cell HP5.out 6).trans rfl; have rc7 := (blk_cell HP5.out 7).trans rfl; have rc8 := (blk_cell HP5.out 8).trans rfl; have rc9 := (blk_cell HP5.out 9).trans rfl; have rc10 := (blk_cell HP5.out 10).trans rfl; have rf0 := blk_frozen HP5.out 0; have rf1 := blk_frozen HP5.out 1; have rf2 := blk_frozen HP5.out 2; have rf3 := blk_frozen HP5.out 3; have rf4 := blk_frozen HP5.out 4; have rf5 := blk_frozen HP5.out 5; have rf6 := blk_frozen HP5.out 6; have rf7 := blk_frozen HP5.out 7; have rf8 := blk_frozen HP5.out 8; have rf9 := blk_frozen HP5.out 9; have rf10 := blk_frozen HP5.out 10; have rl := lt_of_blk HP5.out))
  all_goals
    clear qc0 qc1 qc2 qf0 qf1 qf2 ql
    clear rc0 rc1 rc2 rc3 rc4 rc5 rc6 rc7 rc8 rc9 rc10 rf0 rf1 rf2 rf3 rf4 rf5 rf6 rf7 rf8 rf9 rf10 rl
    clear gc0 gc1 gc2 gf0 gf1 gf2 gl
    clear kc0 kc1 kc2 kc3 kc4 kf0 kf1 kf2 kf3 kf4 kl
    clear pc0 pc1 pc2 pc3 pc4 pc5 pc6 pc7 pc8 pc9 pc10 pf0 pf1 pf2 pf3 pf4 pf5 pf6 pf7 pf8 pf9 pf10 pl
    have hpl := lt_of_blk HP4.out
    have HS6 := Aside0.mk (ex_put78 (Ex.refl (fun b => b = w3.heap.size) w5) (.inl rfl) (.int .u8 x.f0) (.int .i64 x.f1) (.string x.f2) (.slice A1 x.f3.length c1) (.int .i64 x.f4) (.int .u8 0) (.int .i64 0) (.string ⟨#[]⟩) (.slice none 0 0) (.int .i64 0) (.int .i64 ((came : Int) + 1)))
    have HP6 := Aside0.mk (put78 HP5.out (.int .u8 x.f0) (.int .i64 x.f1) (.string x.f2) (.slice A1 x.f3.length c1) (.int .i64 x.f4) (.int .u8 0) (.int .i64 0) (.string ⟨#[]⟩) (.slice none 0 0) (.int .i64 0) (.int .i64 ((came : Int) + 1)))
    have HX46 := Aside0.mk ((((Ex.refl (fun b => b = w3.heap.size) w4).drew).trans HX5.out (fun _ h => h.elim)).trans HS6.out (fun b hb => .inl hb))
    have HR6 := Aside0.mk (Kd.R_mono (Kd.R_step (Kd.R_mono (Kd.R_bound HR5.out.2) (fun b hb => (show w4.heap.size ≤ b from hb.1))) (fun b hb _ => HS6.out.block b (by assumption) (show ¬ b = w3.heap.size by omega))) (fun b hb => hb))
    have HL1 := Aside0.mk HR5.out.1
    clear HR5
    generalize (((((((((((w5.setCell ⟨w3.heap.size, 0, none⟩ (.int .u8 x.f0)).setCell ⟨w3.heap.size, 1, none⟩ (.int .i64 x.f1)).setCell ⟨w3.heap.size, 2, none⟩ (.string x.f2)).setCell ⟨w3.heap.size, 3, none⟩ (.slice A1 x.f3.length c1)).setCell ⟨w3.heap.size, 4, none⟩ (.int .i64 x.f4)).setCell ⟨w3.heap.size, 5, none⟩ (.int .u8 0)).setCell ⟨w3.heap.size, 6, none⟩ (.int .i64 0)).setCell ⟨w3.heap.size, 7, none⟩ (.string ⟨#[]⟩)).setCell ⟨w3.heap.size, 8, none⟩ (.slice none 0 0)).setCell ⟨w3.heap.size, 9, none⟩ (.int .i64 0)).setCell ⟨w3.heap.size, 10, none⟩ (.int .i64 ((came : Int) + 1))) = w6 at HS6 HP6 HX46 HR6 ⊢
    clear HS6 HP5 HG5 HX5
    have HG6 := Aside0.mk (HX46.out.blk HG4.out (show ¬ g = w3.heap.size by omega))
    have HV6 := Aside0.mk (HX46.out.blk HV4.out (show ¬ w.heap.size + 1 = w3.heap.size by omega))
    have HB6 := Aside0.mk (HX46.out.blk HB4.out (show ¬ w.heap.size + 1 + 1 = w3.heap.size by omega))
    have HMB6 := Aside0.mk (HX46.out.blk HMB4.out (show ¬ mb = w3.heap.size by have := lt_of_blk HMB3.out; omega))
    have HOB6 := Aside0.mk (HX46.out.blk HOB4.out (show ¬ ob = w3.heap.size by have := lt_of_blk HOB3.out; omega))
    have HF26 := Aside0.mk (ex_F HX46.out HF24.out (fun b hb => show ¬ b = w3.heap.size by have := hb.2; omega))
    have HUP := run_order (blk_drew HOB6.out) HES2.out HT3.out.nums (.iface t1 u1)
    have HX67 := Aside0.mk (ex_setB ((Ex.refl (fun b => b = ob) w6).drew) (.inl rfl) (.map (es2.push { key := .int .i64 ((came : Int) + 1), val := .iface t1 u1, born := cl2 }) (cl2 + 1)))
    have HOB7 := Aside0.mk (setB_blk (o' := .map (es2.push { key := .int .i64 ((came : Int) + 1), val := .iface t1 u1, born := cl2 }) (cl2 + 1)) (blk_drew HOB6.out))
    generalize setB w6.drew ob (.map (es2.push { key := .int .i64 ((came : Int) + 1), val := .iface t1 u1, born := cl2 }) (cl2 + 1)) = w7 at HUP HX67 HOB7
    have gc0 := (blk_cell HG6.out 0).trans rfl
    have gc1 := (blk_cell HG6.out 1).trans rfl
    have gc2 := (blk_cell HG6.out 2).trans rfl
    have gf0 := blk_frozen HG6.out 0
    have gf1 := blk_frozen HG6.out 1
    have gf2 := blk_frozen HG6.out 2
    have gl := lt_of_blk HG6.out
    go_wp2
    go_region
    clear HUP
    have HG7 := Aside0.mk (HX67.out.blk HG6.out (fun e => by rw [← e] at HOB6; exact absurd (HOB6.out.symm.trans HG6.out) (by simp)))
    have HP7 := Aside0.mk (HX67.out.blk HP6.out (fun e => by rw [← e] at HOB6; exact absurd (HOB6.out.symm.trans HP6.out) (by simp)))
    have HV7 := Aside0.mk (HX67.out.blk HV6.out (fun e => by rw [← e] at HOB6; exact absurd (HOB6.out.symm.trans HV6.out) (by simp)))
    have HB7 := Aside0.mk (HX67.out.blk HB6.out (fun e => by rw [← e] at HOB6; exact absurd (HOB6.out.symm.trans HB6.out) (by simp)))
    have HMB7 := Aside0.mk (HX67.out.blk HMB6.out HT.out.ne)
    have HF27 := Aside0.mk (ex_F HX67.out HF26.out (fun b hb e => HOK.out b hb.1 (by rw [e]; exact HT.out.tb)))
    have HR7 := Aside0.mk (Kd.R_step HR6.out (fun b hb _ => HX67.out.block b (by assumption) (fun e => by have := lt_of_blk HOB4.out; rw [e] at hb; omega)))
    clear gc0 gc1 gc2 gf0 gf1 gf2 gl
    have pc0 := (blk_cell HP7.out 0).trans rfl
    have pc1 := (blk_cell HP7.out 1).trans rfl
    have pc2 := (blk_cell HP7.out 2).trans rfl
    have pc3 := (blk_cell HP7.out 3).trans rfl
    have pc4 := (blk_cell HP7.out 4).trans rfl
    have pc5 := (blk_cell HP7.out 5).trans rfl
    have pc6 := (blk_cell HP7.out 6).trans rfl
    have pc7 := (blk_cell HP7.out 7).trans rfl
    have pc8 := (blk_cell HP7.out 8).trans rfl
    have pc9 := (blk_cell HP7.out 9).trans rfl
    have pc10 := (blk_cell HP7.out 10).trans rfl
    have pf0 := blk_frozen HP7.out 0
    have pf1 := blk_frozen HP7.out 1
    have pf2 := blk_frozen HP7.out 2
    have pf3 := blk_frozen HP7.out 3
    have pf4 := blk_frozen HP7.out 4
    have pf5 := blk_frozen HP7.out 5
    have pf6 := blk_frozen HP7.out 6
    have pf7 := blk_frozen HP7.out 7
    have pf8 := blk_frozen HP7.out 8
    have pf9 := blk_frozen HP7.out 9
    have pf10 := blk_frozen HP7.out 10
    have pl := lt_of_blk HP7.out
    have vc0 := (blk_cell HV7.out 0).trans rfl
    have vc1 := (blk_cell HV7.out 1).trans rfl
    have vc2 := (blk_cell HV7.out 2).trans rfl
    have vc3 := (blk_cell HV7.out 3).trans rfl
    have vc4 := (blk_cell HV7.out 4).trans rfl
    have vf0 := blk_frozen HV7.out 0
    have vf1 := blk_frozen HV7.out 1
    have vf2 := blk_frozen HV7.out 2
    have vf3 := blk_frozen HV7.out 3
    have vf4 := blk_frozen HV7.out 4
    have vl := lt_of_blk HV7.out
    have bc0 := (blk_cell HB7.out 0).trans rfl
    have bc1 := (blk_cell HB7.out 1).trans rfl
    have bc2 := (blk_cell HB7.out 2).trans rfl
    have bc3 := (blk_cell HB7.out 3).trans rfl
    have bc4 := (blk_cell HB7.out 4).trans rfl
    have bf0 := blk_frozen HB7.out 0
    have bf1 := blk_frozen HB7.out 1
    have bf2 := blk_frozen HB7.out 2
    have bf3 := blk_frozen HB7.out 3
    have bf4 := blk_frozen HB7.out 4
    have bl := lt_of_blk HB7.out
    go_wp2_with fail
    have HX78 := Aside0.mk (ex_put27 (Ex.refl (fun b => b = w.heap.size + 1 + 1) w7) (.inl rfl) (.int .u8 0) (.int .i64 0) (.string ⟨#[]⟩) (.slice none 0 0) (.int .i64 0))
    have HB8 := Aside0.mk (put27 HB7.out rfl (.int .u8 0) (.int .i64 0) (.string ⟨#[]⟩) (.slice none 0 0) (.int .i64 0))
    refine (own_calls y B d _ (fun k => ok k ∧ k < w.heap.size) HC.out.2 (ex_F HX78.out HF27.out (fun b hb => show ¬ b = w.heap.size + 1 + 1 by have := hb.2; omega)) HN.out).mono ?_
    rintro e w9 ⟨v, rfl, B1, d1, rfl, l2, hR2, hx9⟩
    have HL2 := Aside0.mk l2
    have HX79 := Aside0.mk (HX78.out.trans hx9 (fun _ h => h.elim))
    have HB9 := Aside0.mk (hx9.blk HB8.out (fun h => h))
    have HR29 := Aside0.mk hR2
    have hs8 : w7.heap.size ≤ ((((((w7.setCell ⟨w.heap.size + 1 + 1, 0, none⟩ (.int .u8 0)).setCell ⟨w.heap.size + 1 + 1, 1, none⟩ (.int .i64 0)).setCell ⟨w.heap.size + 1 + 1, 2, none⟩ (.string ⟨#[]⟩)).setCell ⟨w.heap.size + 1 + 1, 3, none⟩ (.slice none 0 0)).setCell ⟨w.heap.size + 1 + 1, 4, none⟩ (.int .i64 0))).heap.size := HX78.out.size
    have hs8' : ((((((w7.setCell ⟨w.heap.size + 1 + 1, 0, none⟩ (.int .u8 0)).setCell ⟨w.heap.size + 1 + 1, 1, none⟩ (.int .i64 0)).setCell ⟨w.heap.size + 1 + 1, 2, none⟩ (.string ⟨#[]⟩)).setCell ⟨w.heap.size + 1 + 1, 3, none⟩ (.slice none 0 0)).setCell ⟨w.heap.size + 1 + 1, 4, none⟩ (.int .i64 0))).heap.size ≤ w9.heap.size := hx9.size
    clear HX78 HB8 hx9 hR2 l2
    generalize (((((w7.setCell ⟨w.heap.size + 1 + 1, 0, none⟩ (.int .u8 0)).setCell ⟨w.heap.size + 1 + 1, 1, none⟩ (.int .i64 0)).setCell ⟨w.heap.size + 1 + 1, 2, none⟩ (.string ⟨#[]⟩)).setCell ⟨w.heap.size + 1 + 1, 3, none⟩ (.slice none 0 0)).setCell ⟨w.heap.size + 1 + 1, 4, none⟩ (.int .i64 0)) = w8 at HR29 hs8 hs8'
    clear pc0 pc1 pc2 pc3 pc4 pc5 pc6 pc7 pc8 pc9 pc10 pf0 pf1 pf2 pf3 pf4 pf5 pf6 pf7 pf8 pf9 pf10 pl
    clear vc0 vc1 vc2 vc3 vc4 vf0 vf1 vf2 vf3 vf4 vl
    clear bc0 bc1 bc2 bc3 bc4 bf0 bf1 bf2 bf3 bf4 bl
    have HG9 := Aside0.mk (HX79.out.blk HG7.out (show ¬ g = w.heap.size + 1 + 1 by omega))
    have HP9 := Aside0.mk (HX79.out.blk HP7.out (show ¬ w3.heap.size = w.heap.size + 1 + 1 by omega))
    have HMB9 := Aside0.mk (HX79.out.blk HMB7.out (show ¬ mb = w.heap.size + 1 + 1 by rintro rfl; exact absurd (HMB7.out.symm.trans HB7.out) (by simp)))
    have HOB9 := Aside0.mk (HX79.out.blk HOB7.out (show ¬ ob = w.heap.size + 1 + 1 by rintro rfl; exact absurd (HOB7.out.symm.trans HB7.out) (by simp)))
    have HR9 := Aside0.mk (Kd.R_step HR7.out (fun b hb _ => HX79.out.block b (by assumption) (show ¬ b = w.heap.size + 1 + 1 by have := lt_of_blk HB4.out; omega)))
    have pc0 := (blk_cell HP9.out 0).trans rfl
    have pc1 := (blk_cell HP9.out 1).trans rfl
    have pc2 := (blk_cell HP9.out 2).trans rfl
    have pc3 := (blk_cell HP9.out 3).trans rfl
    have pc4 := (blk_cell HP9.out 4).trans rfl
    have pc5 := (blk_cell HP9.out 5).trans rfl
    have pc6 := (blk_cell HP9.out 6).trans rfl
    have pc7 := (blk_cell HP9.out 7).trans rfl
    have pc8 := (blk_cell HP9.out 8).trans rfl
    have pc9 := (blk_cell HP9.out 9).trans rfl
    have pc10 := (blk_cell HP9.out 10).trans rfl
    have pf0 := blk_frozen HP9.out 0
    have pf1 := blk_frozen HP9.out 1
    have pf2 := blk_frozen HP9.out 2
    have pf3 := blk_frozen HP9.out 3
    have pf4 := blk_frozen HP9.out 4
    have pf5 := blk_frozen HP9.out 5
    have pf6 := blk_frozen HP9.out 6
    have pf7 := blk_frozen HP9.out 7
    have pf8 := blk_frozen HP9.out 8
    have pf9 := blk_frozen HP9.out 9
    have pf10 := blk_frozen HP9.out 10
    have pl := lt_of_blk HP9.out
    have bc0 := (blk_cell HB9.out 0).trans rfl
    have bc1 := (blk_cell HB9.out 1).trans rfl
    have bc2 := (blk_cell HB9.out 2).trans rfl
    have bc3 := (blk_cell HB9.out 3).trans rfl
    have bc4 := (blk_cell HB9.out 4).trans rfl
    have bf0 := blk_frozen HB9.out 0
    have bf1 := blk_frozen HB9.out 1
    have bf2 := blk_frozen HB9.out 2
    have bf3 := blk_frozen HB9.out 3
    have bf4 := blk_frozen HB9.out 4
    have bl := lt_of_blk HB9.out
    go_wp2_with fail
    clear pc0 pc1 pc2 pc3 pc4 pc5 pc6 pc7 pc8 pc9 pc10 pf0 pf1 pf2 pf3 pf4 pf5 pf6 pf7 pf8 pf9 pf10 pl
    clear bc0 bc1 bc2 bc3 bc4 bf0 bf1 bf2 bf3 bf4 bl
    have HX910 := Aside0.mk (ex_put78v (Ex.refl (fun b => b = w3.heap.size) w9) (.inl rfl) (.int .u8 y.f0) (.int .i64 y.f1) (.string y.f2) (.slice B1 y.f3.length d1) (.int .i64 y.f4))
    have HP10 := Aside0.mk (put78v HP9.out (.int .u8 y.f0) (.int .i64 y.f1) (.string y.f2) (.slice B1 y.f3.length d1) (.int .i64 y.f4))
    generalize (((((w9.setCell ⟨w3.heap.size, 5, none⟩ (.int .u8 y.f0)).setCell ⟨w3.heap.size, 6, none⟩ (.int .i64 y.f1)).setCell ⟨w3.heap.size, 7, none⟩ (.string y.f2)).setCell ⟨w3.heap.size, 8, none⟩ (.slice B1 y.f3.length d1)).setCell ⟨w3.heap.size, 9, none⟩ (.int .i64 y.f4)) = w10 at HX910 HP10 ⊢
    have HG10 := Aside0.mk (HX910.out.blk HG9.out (show ¬ g = w3.heap.size by omega))
    have HB10 := Aside0.mk (HX910.out.blk HB9.out (show ¬ w.heap.size + 1 + 1 = w3.heap.size by omega))
    have HMB10 := Aside0.mk (HX910.out.blk HMB9.out (show ¬ mb = w3.heap.size by have := lt_of_blk HMB3.out; omega))
    have HOB10 := Aside0.mk (HX910.out.blk HOB9.out (show ¬ ob = w3.heap.size by have := lt_of_blk HOB3.out; omega))
    have HPUT := run_new (blk_drew HMB10.out) HKEY.out (HT3.out.key_all) (HT3.out.keys_map HES.out) HP.out (.agg #[.int .u8 x.f0, .int .i64 x.f1, .string x.f2, .slice A1 x.f3.length c1, .int .i64 x.f4, .int .u8 y.f0, .int .i64 y.f1, .string y.f2, .slice B1 y.f3.length d1, .int .i64 y.f4, .int .i64 ((came : Int) + 1)])
    rw [HU.out] at HPUT
    have HX1011 := Aside0.mk (ex_setB ((Ex.refl (fun b => b = mb) w10).drew) (.inl rfl) (.map (es.push { key := .iface t1 u1, val := .agg #[.int .u8 x.f0, .int .i64 x.f1, .string x.f2, .slice A1 x.f3.length c1, .int .i64 x.f4, .int .u8 y.f0, .int .i64 y.f1, .string y.f2, .slice B1 y.f3.length d1, .int .i64 y.f4, .int .i64 ((came : Int) + 1)], born := cl }) (cl + 1)))
    have HMB11 := Aside0.mk (setB_blk (o' := .map (es.push { key := .iface t1 u1, val := .agg #[.int .u8 x.f0, .int .i64 x.f1, .string x.f2, .slice A1 x.f3.length c1, .int .i64 x.f4, .int .u8 y.f0, .int .i64 y.f1, .string y.f2, .slice B1 y.f3.length d1, .int .i64 y.f4, .int .i64 ((came : Int) + 1)], born := cl }) (cl + 1)) (blk_drew HMB10.out))
    generalize setB w10.drew mb (.map (es.push { key := .iface t1 u1, val := .agg #[.int .u8 x.f0, .int .i64 x.f1, .string x.f2, .slice A1 x.f3.length c1, .int .i64 x.f4, .int .u8 y.f0, .int .i64 y.f1, .string y.f2, .slice B1 y.f3.length d1, .int .i64 y.f4, .int .i64 ((came : Int) + 1)], born := cl }) (cl + 1)) = w11 at HPUT HX1011 HMB11
    have gc0 := (blk_cell HG10.out 0).trans rfl
    have gc1 := (blk_cell HG10.out 1).trans rfl
    have gc2 := (blk_cell HG10.out 2).trans rfl
    have gf0 := blk_frozen HG10.out 0
    have gf1 := blk_frozen HG10.out 1
    have gf2 := blk_frozen HG10.out 2
    have gl := lt_of_blk HG10.out
    have pc0 := (blk_cell HP10.out 0).trans rfl
    have pc1 := (blk_cell HP10.out 1).trans rfl
    have pc2 := (blk_cell HP10.out 2).trans rfl
    have pc3 := (blk_cell HP10.out 3).trans rfl
    have pc4 := (blk_cell HP10.out 4).trans rfl
    have pc5 := (blk_cell HP10.out 5).trans rfl
    have pc6 := (blk_cell HP10.out 6).trans rfl
    have pc7 := (blk_cell HP10.out 7).trans rfl
    have pc8 := (blk_cell HP10.out 8).trans rfl
    have pc9 := (blk_cell HP10.out 9).trans rfl
    have pc10 := (blk_cell HP10.out 10).trans rfl
    have pf0 := blk_frozen HP10.out 0
    have pf1 := blk_frozen HP10.out 1
    have pf2 := blk_frozen HP10.out 2
    have pf3 := blk_frozen HP10.out 3
    have pf4 := blk_frozen HP10.out 4
    have pf5 := blk_frozen HP10.out 5
    have pf6 := blk_frozen HP10.out 6
    have pf7 := blk_frozen HP10.out 7
    have pf8 := blk_frozen HP10.out 8
    have pf9 := blk_frozen HP10.out 9
    have pf10 := blk_frozen HP10.out 10
    have pl := lt_of_blk HP10.out
    go_region
    clear HPUT
    clear gc0 gc1 gc2 gf0 gf1 gf2 gl
    clear pc0 pc1 pc2 pc3 pc4 pc5 pc6 pc7 pc8 pc9 pc10 pf0 pf1 pf2 pf3 pf4 pf5 pf6 pf7 pf8 pf9 pf10 pl
    have HG11 := Aside0.mk (HX1011.out.blk HG10.out (fun e => by rw [← e] at HMB10; exact absurd (HMB10.out.symm.trans HG10.out) (by simp)))
    have HB11 := Aside0.mk (HX1011.out.blk HB10.out (fun e => by rw [← e] at HMB10; exact absurd (HMB10.out.symm.trans HB10.out) (by simp)))
    have HOB11 := Aside0.mk (HX1011.out.blk HOB10.out (Ne.symm HT.out.ne))
    have bc0 := (blk_cell HB11.out 0).trans rfl
    have bc1 := (blk_cell HB11.out 1).trans rfl
    have bc2 := (blk_cell HB11.out 2).trans rfl
    have bc3 := (blk_cell HB11.out 3).trans rfl
    have bc4 := (blk_cell HB11.out 4).trans rfl
    have bf0 := blk_frozen HB11.out 0
    have bf1 := blk_frozen HB11.out 1
    have bf2 := blk_frozen HB11.out 2
    have bf3 := blk_frozen HB11.out 3
    have bf4 := blk_frozen HB11.out 4
    have bl := lt_of_blk HB11.out
    go_wp2_with fail
    have HX1112 := Aside0.mk (ex_put27 (Ex.refl (fun b => b = w.heap.size + 1 + 1) w11) (.inl rfl) (.int .u8 0) (.int .i64 0) (.string ⟨#[]⟩) (.slice none 0 0) (.int .i64 0))
    refine bodyPost_ret (results_row_tmp2 rfl _ _ (w.heap.size + 1 + 1) 27 _ (0, 0) _ rfl (put27 HB11.out rfl _ _ _ _ _) Try.underlying27 rfl size27) rfl ?_
    refine ⟨rfl, ?_⟩
    clear bc0 bc1 bc2 bc3 bc4 bf0 bf1 bf2 bf3 bf4 bl
    generalize (((((w11.setCell ⟨w.heap.size + 1 + 1, 0, none⟩ (.int .u8 0)).setCell ⟨w.heap.size + 1 + 1, 1, none⟩ (.int .i64 0)).setCell ⟨w.heap.size + 1 + 1, 2, none⟩ (.string ⟨#[]⟩)).setCell ⟨w.heap.size + 1 + 1, 3, none⟩ (.slice none 0 0)).setCell ⟨w.heap.size + 1 + 1, 4, none⟩ (.int .i64 0)) = w12 at HX1112 ⊢
    exact put_new_end HT.out HX3.out HX4.out (lt_of_blk HP4.out) HX46.out HX67.out HX79.out HX910.out HX1011.out HX1112.out (lt_of_blk HB3.out) HG11.out rfl HMB11.out HOB11.out HES.out HES2.out HU.out H1.out HKEY.out HP.out HM.out HN.out HL1.out HL2.out HR9.out HR29.out hs8 HMB3.out
end Go.Proofs.Ythkemcekcfccpaa.PBrandCompares
end
section
namespace Go.Proofs.Ythkemcekcfccpaa.PBrandCompares
open Go.RowKit Go.Proofs.YthkemcekcfccpaaW.PrintWords Go.Proofs.YthkemcekcfccpaaW.PrintLast Go.Proofs.YthkemcekcfccpaaW.PrintMore
open Go.Proofs.Ythkemcekcfccpaa.GBrandCompares
set_option linter.unusedVariables false
set_option linter.unusedSimpArgs false
theorem number_calls (n : Int) (w : World) : Calls Try.prog 27 #[.int .i64 n] w fun e w' => e = .returned (.agg #[.int .u8 1, .int .i64 n, .string ⟨#[]⟩, .slice none 0 0, .int .i64 0]) ∧ Ex (fun _ => False) w w' := by
  go_enter Try.func27, Try.ntmps27
  go_wp2_with fail
  refine bodyPost_ret (results_cell_row rfl _ _ w.heap.size 27 _ (0, 0) _ rfl (blk_new1 w _) Try.underlying27 rfl size27) rfl ?_
  exact ⟨rfl, (Ex.refl _ _).alloc _⟩
theorem word_calls (s : ByteArray) (w : World) : Calls Try.prog 28 #[.string s] w fun e w' => e = .returned (.agg #[.int .u8 2, .int .i64 0, .string s, .slice none 0 0, .int .i64 0]) ∧ Ex (fun _ => False) w w' := by
  go_enter Try.func28, Try.ntmps28
  go_wp2_with fail
  refine bodyPost_ret (results_cell_row rfl _ _ w.heap.size 27 _ (0, 0) _ rfl (blk_new1 w _) Try.underlying27 rfl size27) rfl ?_
  exact ⟨rfl, (Ex.refl _ _).alloc _⟩
theorem list_calls (A : Option Addr) (n c : Nat) (w : World) : Calls Try.prog 29 #[.slice A n c] w fun e w' => e = .returned (.agg #[.int .u8 3, .int .i64 0, .string ⟨#[]⟩, .slice A n c, .int .i64 0]) ∧ Ex (fun _ => False) w w' := by
  go_enter Try.func29, Try.ntmps29
  go_wp2_with fail
  refine bodyPost_ret (results_cell_row rfl _ _ w.heap.size 27 _ (0, 0) _ rfl (blk_new1 w _) Try.underlying27 rfl size27) rfl ?_
  exact ⟨rfl, (Ex.refl _ _).alloc _⟩
def num (n : Int) : S27 := ⟨1, n, ⟨#[]⟩, [], 0⟩
def txt (s : ByteArray) : S27 := ⟨2, 0, s, [], 0⟩
def lst (l : List S27) : S27 := ⟨3, 0, ⟨#[]⟩, l, 0⟩
theorem F_pair {w : World} {b : Nat} (m n : Int) (h : w.heap[b]? = some (.cells #[.int .u8 1, .int .i64 m, .string ⟨#[]⟩, .slice none 0 0, .int .i64 0, .int .u8 1, .int .i64 n, .string ⟨#[]⟩, .slice none 0 0, .int .i64 0] 27 (0, 0))) :
    Kd.F k27 w (fun k => k = b) (some ⟨b, 0, none⟩) 2 [num m, num n] := by
  intro W' hW
  have h' : W'.heap[b]? = some (.cells #[.int .u8 1, .int .i64 m, .string ⟨#[]⟩, .slice none 0 0, .int .i64 0, .int .u8 1, .int .i64 n, .string ⟨#[]⟩, .slice none 0 0, .int .i64 0] 27 (0, 0)) := (hW b rfl (lt_of_blk h)).trans h
  have hk : ∀ m : Int, k27.K W' (num m) [.int .u8 1, .int .i64 m, .string ⟨#[]⟩, .slice none 0 0, .int .i64 0] := fun m => k27_mk W' (num m) (A3 := none) (c3 := 0) (Nat.le_refl _) (Kd.C_nil k27 W')
  refine ⟨rfl, by omega, fun _ => ⟨⟨b, 0, none⟩, rfl, ?_⟩⟩
  intro j p hj
  match j with
  | 0 =>
    cases hj
    refine ⟨_, rfl, hk m, ?_⟩
    intro i u hu
    rw [show k27.sz = 5 from rfl, show 0 * 5 + i = i by omega]
    have hc := blk_cell h' i
    have : i < 5 := by have := (List.getElem?_eq_some_iff.1 hu).1; simpa using this
    match i with
    | 0 | 1 | 2 | 3 | 4 => cases hu; exact hc
  | 1 =>
    cases hj
    refine ⟨_, rfl, hk n, ?_⟩
    intro i u hu
    rw [show k27.sz = 5 from rfl]
    have hc := blk_cell h' (1 * 5 + i)
    have : i < 5 := by have := (List.getElem?_eq_some_iff.1 hu).1; simpa using this
    match i with
    | 0 | 1 | 2 | 3 | 4 => cases hu; exact hc
  | j + 2 => simp at hj
end Go.Proofs.Ythkemcekcfccpaa.PBrandCompares
end
section
namespace Go.Proofs.Ythkemcekcfccpaa.PBrandCompares
open Go.RowKit Go.Proofs.YthkemcekcfccpaaW.PrintWords Go.Proofs.YthkemcekcfccpaaW.PrintLast Go.Proofs.YthkemcekcfccpaaW.PrintMore
open Go.Proofs.Ythkemcekcfccpaa.GBrandCompares
set_option linter.unusedVariables false
set_option linter.unusedSimpArgs false
set_option maxHeartbeats 1000000 in
theorem compare_same (x y : S27) (A B : Option Addr) (c d : Nat) (w : World) (ok : Nat → Prop) (hF : Kd.F k27 w ok A x.f3.length x.f3) (hG : Kd.F k27 w ok B y.f3.length y.f3) (hm : mayV x = true) (hn : mayV y = true) (hcmp : ∀ m m2, MarkOf x m → MarkOf y m2 → m.cmp m2 = 1) :
    Calls Try.prog 9 #[.agg #[.int .u8 x.f0, .int .i64 x.f1, .string x.f2, .slice A x.f3.length c, .int .i64 x.f4], .agg #[.int .u8 y.f0, .int .i64 y.f1, .string y.f2, .slice B y.f3.length d, .int .i64 y.f4]] w fun e w' => e = .returned (.tuple #[.int .u8 1, .int .i64 0]) ∧ Ex (fun _ => False) w w' := by
  have hmf : ∀ (fn : Fn) (first cap : Array Value) (w : World), (Instr.makeFunc fn first cap).run Try.prog w = .ok (.func fn first cap) w := fun _ _ _ _ => rfl
  have HF := Aside0.mk hF
  have HG := Aside0.mk hG
  have HM := Aside0.mk hm
  have HN := Aside0.mk hn
  have HC := Aside0.mk hcmp
  clear hF hG hm hn hcmp
  go_enter Try.func9, Try.ntmps9
  go_wp2_with fail
  refine (of_yes x A c _ ok (Kd.F_alloc (Kd.F_alloc HF.out _) _) HM.out).mono ?_
  rintro e w1 ⟨m, h1, h2, rfl, h4⟩
  obtain ⟨t1, u1, hu1⟩ := m.val_iface
  rw [hu1]
  have H1 := Aside0.mk (And.intro h1 (And.intro h2 hu1))
  clear h1 h2 hu1
  have hx1 := h4
  clear h4
  obtain ⟨hc, hf⟩ := hx1.cells
  have HG1 := Aside0.mk (ex_F hx1 (Kd.F_alloc (Kd.F_alloc HG.out _) _) (fun _ _ h => h))
  have HX1 := Aside0.mk ((((Ex.refl (fun _ => False) w).alloc _).alloc _).trans hx1 (fun _ h => h.elim))
  have hlx : w.heap.size + 1 < w1.heap.size := by have := hx1.size; simp at this; omega
  have hlx0 : w.heap.size < w1.heap.size := by omega
  clear hx1
  go_wp2_with fail
  refine (of_yes y B d _ ok (Kd.F_alloc HG1.out _) HN.out).mono ?_
  rintro e w2 ⟨m2, k1, k2, rfl, k4⟩
  obtain ⟨t2, u2, hu2⟩ := m2.val_iface
  rw [hu2]
  have H2 := Aside0.mk (And.intro k1 (And.intro k2 hu2))
  clear k1 k2 hu2
  have hx2 := k4
  clear k4
  obtain ⟨hc2, hf2⟩ := hx2.cells
  have HB6 := Aside0.mk (hx2.blk (blk_new1 w1 _) (fun h => h))
  have HX2 := Aside0.mk ((HX1.out.alloc _).trans hx2 (fun _ h => h.elim))
  clear hc hf
  go_wp2_with fail
  refine Calls.mono (met_ok 31 _ (fun b => b = w2.heap.size + 1) (fun w' => w' = (((w2.alloc (.cells #[.iface t2 u2] 45)).alloc (.cells #[.int .u8 0] 30)).alloc (.cells #[.bool false] 4)).setCell ⟨w2.heap.size + 1, 0, none⟩ (.int .u8 1)) _ (by intro b hb; rw [hb]; simp) (fun w => enters_ Try.func31 (by kernel_rfl) rfl _ w) ?_) ?_
  · refine (same_marks m m2 H1.out.2.1 _ _ _ _ (by rw [H1.out.2.2]; exact blk_alloc (blk_alloc (blk_alloc HB6.out _) _) _) (by rw [H2.out.2.2]; exact blk_alloc (blk_alloc (blk_new1 _ _) _) _) (blk_alloc (blk_new2 _ _ _) _) (HC.out m m2 H1.out.1 H2.out.1)).mono ?_
    rintro e w' ⟨rfl, hw'⟩
    exact ⟨rfl, by rw [hw']; exact (Ex.refl (fun b => b = w2.heap.size + 1) _).set (p := ⟨w2.heap.size + 1, 0, none⟩) (.inl rfl) _, hw'⟩
  rintro e w3 ⟨rfl, w4, hw4, _, rfl⟩
  subst hw4
  go_wp2
  go_ret2
  exact ⟨rfl, ((HX2.out.alloc _).alloc _).alloc _⟩
set_option maxHeartbeats 1000000 in
theorem compare_unlike (x y : S27) (A B : Option Addr) (c d : Nat) (w : World) (ok : Nat → Prop) (hF : Kd.F k27 w ok A x.f3.length x.f3) (hG : Kd.F k27 w ok B y.f3.length y.f3) (hm : mayV x = true) (hn : mayV y = true) (hcmp : ∀ m m2, MarkOf x m → MarkOf y m2 → m.cmp m2 = 0) :
    Calls Try.prog 9 #[.agg #[.int .u8 x.f0, .int .i64 x.f1, .string x.f2, .slice A x.f3.length c, .int .i64 x.f4], .agg #[.int .u8 y.f0, .int .i64 y.f1, .string y.f2, .slice B y.f3.length d, .int .i64 y.f4]] w fun e w' => e = .returned (.tuple #[.int .u8 0, .int .i64 0]) ∧ Ex (fun _ => False) w w' := by
  have hmf : ∀ (fn : Fn) (first cap : Array Value) (w : World), (Instr.makeFunc fn first cap).run Try.prog w = .ok (.func fn first cap) w := fun _ _ _ _ => rfl
  have HF := Aside0.mk hF
  have HG := Aside0.mk hG
  have HM := Aside0.mk hm
  have HN := Aside0.mk hn
  have HC := Aside0.mk hcmp
  clear hF hG hm hn hcmp
  go_enter Try.func9, Try.ntmps9
  go_wp2_with fail
  refine (of_yes x A c _ ok (Kd.F_alloc (Kd.F_alloc HF.out _) _) HM.out).mono ?_
  rintro e w1 ⟨m, h1, h2, rfl, h4⟩
  obtain ⟨t1, u1, hu1⟩ := m.val_iface
  rw [hu1]
  have H1 := Aside0.mk (And.intro h1 (And.intro h2 hu1))
  clear h1 h2 hu1
  have hx1 := h4
  clear h4
  obtain ⟨hc, hf⟩ := hx1.cells
  have HG1 := Aside0.mk (ex_F hx1 (Kd.F_alloc (Kd.F_alloc HG.out _) _) (fun _ _ h => h))
  have HX1 := Aside0.mk ((((Ex.refl (fun _ => False) w).alloc _).alloc _).trans hx1 (fun _ h => h.elim))
  have hlx : w.heap.size + 1 < w1.heap.size := by have := hx1.size; simp at this; omega
  have hlx0 : w.heap.size < w1.heap.size := by omega
  clear hx1
  go_wp2_with fail
  refine (of_yes y B d _ ok (Kd.F_alloc HG1.out _) HN.out).mono ?_
  rintro e w2 ⟨m2, k1, k2, rfl, k4⟩
  obtain ⟨t2, u2, hu2⟩ := m2.val_iface
  rw [hu2]
  have H2 := Aside0.mk (And.intro k1 (And.intro k2 hu2))
  clear k1 k2 hu2
  have hx2 := k4
  clear k4
  obtain ⟨hc2, hf2⟩ := hx2.cells
  have HB6 := Aside0.mk (hx2.blk (blk_new1 w1 _) (fun h => h))
  have HX2 := Aside0.mk ((HX1.out.alloc _).trans hx2 (fun _ h => h.elim))
  clear hc hf
  go_wp2_with fail
  refine Calls.mono (met_ok 31 _ (fun _ => False) (fun w' => w' = ((w2.alloc (.cells #[.iface t2 u2] 45)).alloc (.cells #[.int .u8 0] 30)).alloc (.cells #[.bool false] 4)) _ (by intro b hb; exact hb.elim) (fun w => enters_ Try.func31 (by kernel_rfl) rfl _ w) ?_) ?_
  · refine (unlike_marks m m2 H1.out.2.1 _ _ _ _ (by rw [H1.out.2.2]; exact blk_alloc (blk_alloc (blk_alloc HB6.out _) _) _) (by rw [H2.out.2.2]; exact blk_alloc (blk_alloc (blk_new1 _ _) _) _) (HC.out m m2 H1.out.1 H2.out.1)).mono ?_
    rintro e w' ⟨rfl, hw'⟩
    exact ⟨rfl, by rw [hw']; exact Ex.refl _ _, hw'⟩
  rintro e w3 ⟨rfl, w4, hw4, _, rfl⟩
  subst hw4
  go_wp2
  go_ret2
  exact ⟨rfl, ((HX2.out.alloc _).alloc _).alloc _⟩
set_option maxHeartbeats 1000000 in
theorem compare_panic (x y : S27) (A B : Option Addr) (c d : Nat) (w : World) (ok : Nat → Prop) (hF : Kd.F k27 w ok A x.f3.length x.f3) (hG : Kd.F k27 w ok B y.f3.length y.f3) (hm : mayV x = true) (hn : mayV y = true) (hcmp : ∀ m m2, MarkOf x m → MarkOf y m2 → m.cmp m2 = 2) :
    Calls Try.prog 9 #[.agg #[.int .u8 x.f0, .int .i64 x.f1, .string x.f2, .slice A x.f3.length c, .int .i64 x.f4], .agg #[.int .u8 y.f0, .int .i64 y.f1, .string y.f2, .slice B y.f3.length d, .int .i64 y.f4]] w fun e w' => e = .returned (.tuple #[.int .u8 2, .int .i64 0]) ∧ Ex (fun _ => False) w w' := by
  have hmf : ∀ (fn : Fn) (first cap : Array Value) (w : World), (Instr.makeFunc fn first cap).run Try.prog w = .ok (.func fn first cap) w := fun _ _ _ _ => rfl
  have HF := Aside0.mk hF
  have HG := Aside0.mk hG
  have HM := Aside0.mk hm
  have HN := Aside0.mk hn
  have HC := Aside0.mk hcmp
  clear hF hG hm hn hcmp
  go_enter Try.func9, Try.ntmps9
  go_wp2_with fail
  refine (of_yes x A c _ ok (Kd.F_alloc (Kd.F_alloc HF.out _) _) HM.out).mono ?_
  rintro e w1 ⟨m, h1, h2, rfl, h4⟩
  obtain ⟨t1, u1, hu1⟩ := m.val_iface
  rw [hu1]
  have H1 := Aside0.mk (And.intro h1 (And.intro h2 hu1))
  clear h1 h2 hu1
  have hx1 := h4
  clear h4
  obtain ⟨hc, hf⟩ := hx1.cells
  have HG1 := Aside0.mk (ex_F hx1 (Kd.F_alloc (Kd.F_alloc HG.out _) _) (fun _ _ h => h))
  have HX1 := Aside0.mk ((((Ex.refl (fun _ => False) w).alloc _).alloc _).trans hx1 (fun _ h => h.elim))
  have hlx : w.heap.size + 1 < w1.heap.size := by have := hx1.size; simp at this; omega
  have hlx0 : w.heap.size < w1.heap.size := by omega
  clear hx1
  go_wp2_with fail
  refine (of_yes y B d _ ok (Kd.F_alloc HG1.out _) HN.out).mono ?_
  rintro e w2 ⟨m2, k1, k2, rfl, k4⟩
  obtain ⟨t2, u2, hu2⟩ := m2.val_iface
  rw [hu2]
  have H2 := Aside0.mk (And.intro k1 (And.intro k2 hu2))
  clear k1 k2 hu2
  have hx2 := k4
  clear k4
  obtain ⟨hc2, hf2⟩ := hx2.cells
  have HB6 := Aside0.mk (hx2.blk (blk_new1 w1 _) (fun h => h))
  have HX2 := Aside0.mk ((HX1.out.alloc _).trans hx2 (fun _ h => h.elim))
  clear hc hf
  go_wp2_with fail
  refine Calls.mono (met_panic 31 _ (fun _ => False) (fun w' => w' = ((w2.alloc (.cells #[.iface t2 u2] 45)).alloc (.cells #[.int .u8 0] 30)).alloc (.cells #[.bool false] 4)) _ (by intro b hb; exact hb.elim) (fun w => enters_ Try.func31 (by kernel_rfl) rfl _ w) ?_) ?_
  · refine (panic_marks m m2 H1.out.2.1 _ _ _ _ (by rw [H1.out.2.2]; exact blk_alloc (blk_alloc (blk_alloc HB6.out _) _) _) (by rw [H2.out.2.2]; exact blk_alloc (blk_alloc (blk_new1 _ _) _) _) (HC.out m m2 H1.out.1 H2.out.1)).mono ?_
    rintro e w' ⟨rfl, hw'⟩
    exact ⟨⟨10, _, .inl rfl, rfl⟩, by rw [hw']; exact Ex.refl _ _, hw'⟩
  rintro e w3 ⟨rfl, w4, hw4, _, rfl⟩
  subst hw4
  go_wp2
  go_ret2
  exact ⟨rfl, ((HX2.out.alloc _).alloc _).alloc _⟩
end Go.Proofs.Ythkemcekcfccpaa.PBrandCompares
end
section
namespace Go.Proofs.Ythkemcekcfccpaa.PBrandCompares
open Go.RowKit Go.Proofs.YthkemcekcfccpaaW.PrintWords Go.Proofs.YthkemcekcfccpaaW.PrintLast Go.Proofs.YthkemcekcfccpaaW.PrintMore
open Go.Proofs.Ythkemcekcfccpaa.GBrandCompares
set_option linter.unusedVariables false
set_option linter.unusedSimpArgs false
theorem mark_one (m : Mk) : ∀ (x : S27) (m' : Mk), MarkOf x m → MarkOf x m' → m.keys = m'.keys ∧ (m.keys = true → m' = m) := by
  induction m with
  | pair a b iha ihb =>
    intro x m' h h'
    obtain ⟨h3, y, z, hl, ha, hb⟩ := h
    cases m' with
    | pair a' b' =>
      obtain ⟨_, y', z', hl', ha', hb'⟩ := h'
      rw [hl] at hl'
      cases hl'
      have h1 := iha y a' ha ha'
      have h2 := ihb z b' hb hb'
      simp only [Mk.keys, h1.1, h2.1, Bool.and_eq_true]
      refine ⟨trivial, fun hk => ?_⟩
      rw [h1.2 (h1.1 ▸ hk.1), h2.2 (h2.1 ▸ hk.2)]
    | row v => exact absurd (by rw [hl]; rfl) h'.2
    | nothing => exact absurd h3 h'.2.2.2
    | number n => have := h'.1; omega
    | text s => have := h'.1; omega
    | refer r => have := h'.1; omega
  | row v =>
    intro x m' h h'
    cases m' with
    | row v' => exact ⟨rfl, fun hk => by simp [Mk.keys] at hk⟩
    | pair a b => obtain ⟨_, y, z, hl, _⟩ := h'; exact absurd (by rw [hl]; rfl) h.2
    | nothing => exact absurd h.1 h'.2.2.2
    | number n => have := h.1; have := h'.1; omega
    | text s => have := h.1; have := h'.1; omega
    | refer r => have := h.1; have := h'.1; omega
  | nothing =>
    intro x m' h h'
    cases m' with
    | nothing => exact ⟨rfl, fun _ => rfl⟩
    | row v => exact absurd h'.1 h.2.2.2
    | pair a b => exact absurd h'.1 h.2.2.2
    | number n => exact absurd h'.1 h.1
    | text s => exact absurd h'.1 h.2.1
    | refer r => exact absurd h'.1 h.2.2.1
  | number n =>
    intro x m' h h'
    cases m' with
    | number k => exact ⟨rfl, fun _ => by rw [h.2, h'.2]⟩
    | nothing => exact absurd h.1 h'.1
    | row v => have := h.1; have := h'.1; omega
    | pair a b => have := h.1; have := h'.1; omega
    | text s => have := h.1; have := h'.1; omega
    | refer r => have := h.1; have := h'.1; omega
  | text n =>
    intro x m' h h'
    cases m' with
    | text k => exact ⟨rfl, fun _ => by rw [h.2, h'.2]⟩
    | nothing => exact absurd h.1 h'.2.1
    | row v => have := h.1; have := h'.1; omega
    | pair a b => have := h.1; have := h'.1; omega
    | number s => have := h.1; have := h'.1; omega
    | refer r => have := h.1; have := h'.1; omega
  | refer n =>
    intro x m' h h'
    cases m' with
    | refer k => exact ⟨rfl, fun _ => by rw [h.2, h'.2]⟩
    | nothing => exact absurd h.1 h'.2.2.1
    | row v => have := h.1; have := h'.1; omega
    | pair a b => have := h.1; have := h'.1; omega
    | number s => have := h.1; have := h'.1; omega
    | text r => have := h.1; have := h'.1; omega
theorem mark_deep (m : Mk) : ∀ (x : S27) (n : Nat), MarkOf x m → Fit n x → m.deep ≤ n := by
  induction m with
  | pair a b iha ihb =>
    intro x n h hf
    obtain ⟨h3, y, z, hl, ha, hb⟩ := h
    cases n with
    | zero => exact absurd h3 hf
    | succ n =>
      have hy := (hf h3).2
      rw [hl] at hy
      have h1 := iha y n ha (hy y (by simp))
      have h2 := ihb z n hb (hy z (by simp))
      simp only [Mk.deep]
      omega
  | _ => intro x n _ _; exact Nat.zero_le _
def KeyV (x : S27) : Prop := ∃ m, MarkOf x m ∧ m.keys = true
theorem key_mark {x : S27} (hm : mayV x = true) (h : KeyV x) : ∃ m, MarkOf x m ∧ Key m ∧ ∀ m2, MarkOf x m2 → m2 = m := by
  obtain ⟨m, h1, h2⟩ := h
  exact ⟨m, h1, ⟨h2, mark_deep m x 16 h1 (may_fit hm)⟩, fun m2 h3 => (mark_one m x m2 h1 h3).2 h2⟩
theorem no_key {x : S27} (h : ¬ KeyV x) (m : Mk) (h1 : MarkOf x m) : m.keys = false := by
  cases hk : m.keys with
  | false => rfl
  | true => exact absurd ⟨m, h1, hk⟩ h
def PutS (x y : S27) (g mb ob : Nat) (T : Nat → Prop) (rows : List Row) (came : Nat) (w : World) (e : Ending) (w' : World) : Prop :=
  (mayV x = false ∨ mayV y = false) ∧ e = .returned (.tuple #[zval, .bool false, .int .i64 2]) ∧ Ex (fun _ => False) w w' ∨
  (mayV x = true ∧ mayV y = true) ∧ ¬ KeyV x ∧ e = .returned (.tuple #[zval, .bool false, .int .i64 40]) ∧ Ex (fun _ => False) w w' ∨
  (mayV x = true ∧ mayV y = true) ∧ Ex (fun b => b = g ∨ b = mb ∨ b = ob) w w' ∧ ∃ m, MarkOf x m ∧ Key m ∧
    ((m ∉ rows.map (·.m) ∧ e = .returned (.tuple #[zval, .bool false, .int .i64 0]) ∧ ∃ r : Row, r.m = m ∧ r.k = x ∧ r.v = y ∧ r.n = came + 1 ∧ Tab w' g mb ob (fun b => T b ∨ w.heap.size ≤ b) (rows ++ [r]) (came + 1)) ∨
     (∃ (j : Nat) (r : Row), rows[j]? = some r ∧ r.m = m ∧ e = .returned (.tuple #[.agg #[.int .u8 r.v.f0, .int .i64 r.v.f1, .string r.v.f2, .slice r.B r.v.f3.length r.cb, .int .i64 r.v.f4], .bool true, .int .i64 0]) ∧ Kd.F k27 w' T r.B r.v.f3.length r.v.f3 ∧
        ∃ B d, Tab w' g mb ob (fun b => T b ∨ w.heap.size ≤ b) (rows.set j (r.turn y B d)) came))
theorem put_calls (x y : S27) (A B : Option Addr) (c d g mb ob : Nat) (T ok : Nat → Prop) (rows : List Row) (came : Nat) (w : World) (h : Tab w g mb ob T rows came) (hcame : came < 1000000000) (hc : x.f3.length ≤ c) (hd : y.f3.length ≤ d)
    (hF : Kd.F k27 w ok A x.f3.length x.f3) (hF2 : Kd.F k27 w ok B y.f3.length y.f3) (hok : ∀ b, ok b → ¬ T b) : PUT x y A B c d g w (PutS x y g mb ob T rows came w) := by
  cases hm : mayV x with
  | false => exact (put_arg1 x y A B c d g mb _ _ w ok h.hg hF hF2 hm).mono (fun e w' he => .inl ⟨.inl hm, he.1, he.2⟩)
  | true =>
    cases hn : mayV y with
    | false => exact (put_arg2 x y A B c d g mb _ _ w ok h.hg hF hF2 hm hn).mono (fun e w' he => .inl ⟨.inr hn, he.1, he.2⟩)
    | true =>
      by_cases hk : KeyV x
      · obtain ⟨m, h1, h2, h3⟩ := key_mark hm hk
        cases hp : posMk m (rows.map (·.m)) with
        | none =>
          refine (put_new x y A B c d g mb ob T ok rows came w h hcame hc hd hF hF2 hok hm hn m h3 h2 hp).mono (fun e w' he => .inr (.inr ⟨⟨hm, hn⟩, he.2.1, m, h1, h2, .inl ⟨?_, he.1, he.2.2⟩⟩))
          exact fun hmem => posMk_none h2.1 hp m hmem rfl
        | some j =>
          have hj := posMk_key h2.1 (fun m h' => (h.key_all m h').1) hp
          rw [List.getElem?_map] at hj
          cases hr : rows[j]? with
          | none => rw [hr] at hj; simp at hj
          | some r =>
            rw [hr] at hj
            have hrm : r.m = m := by simpa using hj
            exact (put_old x y A B c d g mb ob T ok rows came w h hcame hc hd hF hF2 hok hm hn m h3 h2 j r hp hr hrm).mono (fun e w' he => .inr (.inr ⟨⟨hm, hn⟩, he.2.1, m, h1, h2, .inr ⟨j, r, hr, hrm, he.1, he.2.2.1, he.2.2.2⟩⟩))
      · exact (put_key x y A B c d g mb _ _ w ok h.hg hF hF2 hm hn (no_key hk)).mono (fun e w' he => .inr (.inl ⟨⟨hm, hn⟩, hk, he.1, he.2⟩))
theorem tab_new (w : World) : Tab (((w.alloc (.map #[] 0)).alloc (.map #[] 0)).alloc (.cells #[.map (some w.heap.size), .map (some (w.heap.size + 1)), .int .i64 0] 66)) (w.heap.size + 2) w.heap.size (w.heap.size + 1) (fun b => w.heap.size ≤ b) [] 0 where
  hg := blk_new3 _ _ _ _
  hm := ⟨#[], 0, blk_alloc (blk_alloc (blk_new1 _ _) _) _, rfl⟩
  ho := ⟨#[], 0, blk_alloc (blk_new2 _ _ _) _, rfl⟩
  good := by simp
  tg := by omega
  tm := Nat.le_refl _
  tb := by omega
  ne := by omega
  nums := by simp
  marks := .nil
  cames := .nil
  stamps := .nil
  clock := by simp
set_option maxRecDepth 10000 in
theorem len_calls (g mb ob : Nat) (T : Nat → Prop) (rows : List Row) (came : Nat) (w : World) (h : Tab w g mb ob T rows came) : Calls Try.prog 17 #[.pointer (some ⟨g, 0, none⟩)] w fun e w' => e = .returned (.int .i64 rows.length) ∧ w' = w := by
  have HG := Aside0.mk h.hg
  obtain ⟨es, cl, hmb, hes⟩ := h.hm
  have hl : es.size = rows.length := by have := congrArg List.length hes; simpa using this
  have c0 := (blk_cell HG.out 0).trans rfl
  have hln : ∀ ty, (Builtin.len_ #[63] ty #[.map (some mb)]).run Try.prog w = .ok (.int .i64 rows.length) w := fun ty => by
    rw [← hl]
    simp [Builtin.len_, run_underlying Try.underlying63, run_getObj_map w mb es cl hmb]
    rfl
  have HLN := Aside0.mk hln
  clear h hes hmb hl hln
  go_enter Try.func17, Try.ntmps17
  go_wp2_with fail
  refine (none_no g mb _ _ _ HG.out).mono ?_
  rintro e w1 ⟨rfl, rfl⟩
  have hln := HLN.out 3
  go_wp2_with fail
  go_ret
  exact ⟨rfl, rfl⟩
end Go.Proofs.Ythkemcekcfccpaa.PBrandCompares
end
section
namespace Go.Proofs.Ythkemcekcfccpaa.PBrandCompares
open Go.RowKit Go.Proofs.YthkemcekcfccpaaW.PrintWords Go.Proofs.YthkemcekcfccpaaW.PrintLast Go.Proofs.YthkemcekcfccpaaW.PrintMore
open Go.Proofs.Ythkemcekcfccpaa.GBrandCompares
set_option linter.unusedVariables false
set_option linter.unusedSimpArgs false
theorem wrap_id {n : Int} (h0 : -9223372036854775808 ≤ n) (h1 : n < 9223372036854775808) : wrap64 n = n := by unfold wrap64; omega
theorem bytes_eq (s t : ByteArray) : s.toList = t.toList ↔ s = t := by
  rw [ByteArray.toList_eq, ByteArray.toList_eq]
  obtain ⟨⟨l⟩⟩ := s
  obtain ⟨⟨m⟩⟩ := t
  simp
theorem S27.ext {x y : S27} (h0 : x.f0 = y.f0) (h1 : x.f1 = y.f1) (h2 : x.f2 = y.f2) (h3 : x.f3 = y.f3) (h4 : x.f4 = y.f4) : x = y := by
  cases x; cases y; simp only at h0 h1 h2 h3 h4; simp [h0, h1, h2, h3, h4]
inductive Lens : S27 → Prop
  | mk {x : S27} : x.f3.length ≤ 9223372036854775807 → (∀ y ∈ x.f3, Lens y) → Lens x
theorem Lens.len {x : S27} (h : Lens x) : x.f3.length ≤ 9223372036854775807 := by cases h; assumption
theorem Lens.sub {x y : S27} (h : Lens x) (hy : y ∈ x.f3) : Lens y := by cases h with | mk _ h => exact h y hy
theorem Wf.lens {x : S27} : Wf x → Lens x := by
  induction x using S27.ind with
  | h x ih => intro h; exact .mk h.len fun y hy => ih y hy (h.sub hy)
def shapeV (x : S27) : Int := if x.f0 = 3 then (if x.f3.length = 2 then 3 else 5) else x.f0
theorem mark_shape {x : S27} {m : Mk} (hf : Field x) (h : MarkOf x m) : shapeV x = match m with | .nothing => 0 | .number _ => 1 | .text _ => 2 | .refer _ => 4 | .pair _ _ => 3 | .row _ => 5 := by
  unfold shapeV
  unfold Field at hf
  cases m with
  | nothing => have := h.1; have := h.2.1; have := h.2.2.1; have := h.2.2.2; rw [if_neg (by omega)]; show x.f0 = 0; omega
  | number n => have := h.1; rw [if_neg (by omega)]; exact this
  | text s => have := h.1; rw [if_neg (by omega)]; exact this
  | refer r => have := h.1; rw [if_neg (by omega)]; exact this
  | pair a b =>
    obtain ⟨h3, y, z, hl, _⟩ := h
    rw [if_pos h3, if_pos (by rw [hl]; rfl)]
  | row v => rw [if_pos h.1, if_neg h.2]
theorem nil_of_size {s : ByteArray} (h : s.size = 0) : s = ByteArray.empty := by
  obtain ⟨⟨l⟩⟩ := s
  have : l.length = 0 := h
  rw [List.length_eq_zero_iff] at this
  subst this
  rfl
theorem same_of_nil {s t : ByteArray} (h : s.size = 0) (h' : t.size = 0) : s = t := (nil_of_size h).trans (nil_of_size h').symm
theorem list_of_nil {l m : List S27} (h : l.length = 0) (h' : m.length = 0) : l = m := by rw [List.length_eq_zero_iff.1 h, List.length_eq_zero_iff.1 h']
theorem plain_cmp {x y : S27} {m m2 : Mk} (hf : Field x) (hg : Field y) (h : MarkOf x m) (h2 : MarkOf y m2) (hs : shapeV x = shapeV y) (h5 : shapeV x ≠ 5) (h3 : shapeV x ≠ 3) : (x = y → m.cmp m2 = 1) ∧ (x ≠ y → m.cmp m2 = 0) := by
  have e1 := mark_shape hf h
  have e2 := mark_shape hg h2
  rw [hs, e2] at e1
  rw [hs, e2] at h5 h3
  cases m with
  | nothing =>
    cases m2 <;> simp at e1
    have k1 : x.f0 = 0 := by have := h.1; have := h.2.1; have := h.2.2.1; have := h.2.2.2; unfold Field at hf; omega
    have k2 : y.f0 = 0 := by have := h2.1; have := h2.2.1; have := h2.2.2.1; have := h2.2.2.2; unfold Field at hg; omega
    refine ⟨fun _ => rfl, fun hn => absurd ?_ hn⟩
    unfold Field at hf hg
    exact S27.ext (by omega) (by omega) (same_of_nil (by omega) (by omega)) (list_of_nil (by omega) (by omega)) (by omega)
  | number n =>
    cases m2 <;> simp at e1
    rename_i n2
    have k1 := h.1; have k2 := h2.1; have l1 := h.2; have l2 := h2.2
    simp only [Mk.cmp]
    refine ⟨fun he => if_pos (by rw [l1, l2, he]), fun hn => if_neg fun he => hn ?_⟩
    unfold Field at hf hg
    exact S27.ext (by omega) (by omega) (same_of_nil (by omega) (by omega)) (list_of_nil (by omega) (by omega)) (by omega)
  | text s =>
    cases m2 <;> simp at e1
    rename_i s2
    have k1 := h.1; have k2 := h2.1; have l1 := h.2; have l2 := h2.2
    simp only [Mk.cmp]
    refine ⟨fun he => if_pos (by rw [l1, l2, he]), fun hn => if_neg fun he => hn ?_⟩
    unfold Field at hf hg
    exact S27.ext (by omega) (by omega) (by rw [← l1, ← l2, he]) (list_of_nil (by omega) (by omega)) (by omega)
  | refer r =>
    cases m2 <;> simp at e1
    rename_i r2
    have k1 := h.1; have k2 := h2.1; have l1 := h.2; have l2 := h2.2
    simp only [Mk.cmp]
    refine ⟨fun he => if_pos (by rw [l1, l2, he]), fun hn => if_neg fun he => hn ?_⟩
    unfold Field at hf hg
    exact S27.ext (by omega) (by omega) (same_of_nil (by omega) (by omega)) (list_of_nil (by omega) (by omega)) (by omega)
  | pair a b => cases m2 <;> simp at e1 <;> exact absurd rfl h3
  | row v => cases m2 <;> simp at e1 <;> exact absurd rfl h5
theorem drop_rd {xs : List S27} {i : Nat} (h : i < xs.length) : xs.drop i = rd_T27 xs (i : Int) :: xs.drop (i + 1) := rd_drop h
theorem keyv_iff {x : S27} {m : Mk} (h : MarkOf x m) : KeyV x ↔ m.keys = true := ⟨fun ⟨m2, h2, hk⟩ => (mark_one m x m2 h h2).1.trans hk, fun hk => ⟨m, h, hk⟩⟩
end Go.Proofs.Ythkemcekcfccpaa.PBrandCompares
end
section
namespace Go.Proofs.Ythkemcekcfccpaa.PBrandCompares
open Go.RowKit Go.Proofs.YthkemcekcfccpaaW.PrintWords Go.Proofs.YthkemcekcfccpaaW.PrintLast Go.Proofs.YthkemcekcfccpaaW.PrintMore
open Go.Proofs.Ythkemcekcfccpaa.GBrandCompares
set_option linter.unusedVariables false
set_option linter.unusedSimpArgs false
abbrev sameE (x y : S27) (k : Nat) : Option Bool := posternref04_Same.f k x.f0 x.f1 x.f2 x.f3 x.f4 y.f0 y.f1 y.f2 y.f3 y.f4
abbrev sameLE (x y : S27) (i : Int) (k : Nat) : Option Bool := posternref04_Same.l0 k i x.f0 x.f1 x.f2 x.f3 x.f4 y.f0 y.f1 y.f2 y.f3 y.f4
theorem same_ev (x : S27) : ∀ y : S27, Lens x → ∃ b, Ev (sameE x y) b ∧ (b = true ↔ x = y) := by
  induction x using S27.ind with
  | h x ih =>
    intro y hw
    have hlen := hw.len
    have hloop : x.f3.length = y.f3.length → ∀ (m i : Nat), m + i = x.f3.length → ∃ b, Ev (sameLE x y i) b ∧ (b = true ↔ x.f3.drop i = y.f3.drop i) := by
      intro hl m
      induction m with
      | zero =>
        intro i hi
        refine ⟨true, Ev.step (f := fun k => some true) (fun k => ?_) (Ev.now true), ?_⟩
        · simp only [sameLE, posternref04_Same.l0]; rw [if_neg (by omega)]
        · rw [List.drop_eq_nil_of_le (by omega), List.drop_eq_nil_of_le (by omega)]; simp
      | succ m ihm =>
        intro i hi
        have hlt : i < x.f3.length := by omega
        rw [drop_rd hlt, drop_rd (xs := y.f3) (i := i) (by omega)]
        obtain ⟨b1, h1, hf1⟩ := ih _ (rd_mem hlt) (rd_T27 y.f3 i) (hw.sub (rd_mem hlt))
        have hstep : ∀ k, sameLE x y i (k + 1) = (sameE (rd_T27 x.f3 i) (rd_T27 y.f3 i) k).bind fun t => if t = true then sameLE x y ((i + 1 : Nat) : Int) k else some false := by
          intro k
          simp only [sameLE, posternref04_Same.l0]
          rw [if_pos (by omega), if_pos (by omega), if_pos (by omega), wrap_id (n := (i : Int) + 1) (by omega) (by omega)]
          rfl
        cases b1
        · refine ⟨false, Ev.step hstep (Ev.bind h1 (by simpa using Ev.now false)), ?_⟩
          refine ⟨fun h => by simp at h, fun h => ?_⟩
          have := hf1.2 (List.cons.inj h).1
          simp at this
        · obtain ⟨b2, h2, hf2⟩ := ihm (i + 1) (by omega)
          refine ⟨b2, Ev.step hstep (Ev.bind h1 (by simpa using h2)), ?_⟩
          rw [hf2, hf1.1 rfl]
          simp
    have hjt : Ev (fun k => posternref04_Same.j0 k true x.f0 x.f1 x.f2 x.f3 x.f4 y.f0 y.f1 y.f2 y.f3 y.f4) false := Ev.step (f := fun k => some false) (fun k => by simp [posternref04_Same.j0]) (Ev.now false)
    by_cases h0 : x.f0 = y.f0
    · by_cases h1 : x.f1 = y.f1
      · by_cases h2 : x.f2 = y.f2
        · by_cases h4 : x.f4 = y.f4
          · by_cases hl : x.f3.length = y.f3.length
            · obtain ⟨b, hb, hf⟩ := hloop hl x.f3.length 0 (by omega)
              refine ⟨b, Ev.step (f := fun k => posternref04_Same.j0 k ((x.f3.length : Int) != (y.f3.length : Int)) x.f0 x.f1 x.f2 x.f3 x.f4 y.f0 y.f1 y.f2 y.f3 y.f4) (fun k => ?_) ?_, ?_⟩
              · simp only [sameE, posternref04_Same.f]; rw [if_pos h0, if_pos h1, if_pos ((bytes_eq _ _).2 h2), if_pos h4]
              · refine Ev.step (f := fun k => sameLE x y 0 k) (fun k => ?_) (by simpa using hb)
                have : ((x.f3.length : Int) != (y.f3.length : Int)) = false := by simp [hl]
                simp [posternref04_Same.j0, this]
              · rw [hf]
                simp only [List.drop_zero]
                exact ⟨fun h => S27.ext h0 h1 h2 h h4, fun h => by rw [h]⟩
            · refine ⟨false, Ev.step (f := fun k => posternref04_Same.j0 k ((x.f3.length : Int) != (y.f3.length : Int)) x.f0 x.f1 x.f2 x.f3 x.f4 y.f0 y.f1 y.f2 y.f3 y.f4) (fun k => ?_) ?_, ?_⟩
              · simp only [sameE, posternref04_Same.f]; rw [if_pos h0, if_pos h1, if_pos ((bytes_eq _ _).2 h2), if_pos h4]
              · rw [show ((x.f3.length : Int) != (y.f3.length : Int)) = true by simp; omega]; exact hjt
              · refine ⟨fun h => by simp at h, fun h => absurd (by rw [h]) hl⟩
          · refine ⟨false, Ev.step (fun k => ?_) hjt, ⟨fun h => by simp at h, fun h => absurd (by rw [h]) h4⟩⟩
            simp only [sameE, posternref04_Same.f]; rw [if_pos h0, if_pos h1, if_pos ((bytes_eq _ _).2 h2), if_neg h4]
        · refine ⟨false, Ev.step (fun k => ?_) hjt, ⟨fun h => by simp at h, fun h => absurd (by rw [h]) h2⟩⟩
          simp only [sameE, posternref04_Same.f]; rw [if_pos h0, if_pos h1, if_neg (fun h => h2 ((bytes_eq _ _).1 h))]
      · refine ⟨false, Ev.step (fun k => ?_) hjt, ⟨fun h => by simp at h, fun h => absurd (by rw [h]) h1⟩⟩
        simp only [sameE, posternref04_Same.f]; rw [if_pos h0, if_neg h1]
    · refine ⟨false, Ev.step (fun k => ?_) hjt, ⟨fun h => by simp at h, fun h => absurd (by rw [h]) h0⟩⟩
      simp only [sameE, posternref04_Same.f]; rw [if_neg h0]
noncomputable def eqS (x y : S27) : Bool := by classical exact decide (x = y)
theorem eqS_iff {x y : S27} : eqS x y = true ↔ x = y := by classical exact decide_eq_true_iff
theorem same_calls (x y : S27) (A B : Option Addr) (c d : Nat) (w : World) (hc : x.f3.length ≤ c) (hC : Kd.C k27 w A x.f3.length x.f3) (hd : y.f3.length ≤ d) (hD : Kd.C k27 w B y.f3.length y.f3) (hl : Lens x) :
    Calls Try.prog 26 #[.agg #[.int .u8 x.f0, .int .i64 x.f1, .string x.f2, .slice A x.f3.length c, .int .i64 x.f4], .agg #[.int .u8 y.f0, .int .i64 y.f1, .string y.f2, .slice B y.f3.length d, .int .i64 y.f4]] w fun e w' => e = .returned (.bool (eqS x y)) ∧ Below w.heap.size w w' := by
  obtain ⟨b, hb, hi⟩ := same_ev x y hl
  obtain ⟨k, h⟩ := hb.rounds
  have he : b = eqS x y := by rw [Bool.eq_iff_iff, hi, eqS_iff]
  rw [← he]
  exact posternref04_Same.calls k x.f0 x.f1 x.f2 A c x.f3 x.f4 y.f0 y.f1 y.f2 B d y.f3 y.f4 _ w hC hc hD hd h
end Go.Proofs.Ythkemcekcfccpaa.PBrandCompares
end
section
namespace Go.Proofs.Ythkemcekcfccpaa.PBrandCompares
open Go.RowKit Go.Proofs.YthkemcekcfccpaaW.PrintWords Go.Proofs.YthkemcekcfccpaaW.PrintLast Go.Proofs.YthkemcekcfccpaaW.PrintMore
open Go.Proofs.Ythkemcekcfccpaa.GBrandCompares
set_option linter.unusedVariables false
set_option linter.unusedSimpArgs false
theorem cells27 : Try.prog.cellsOf 27 = 5 := by kernel_rfl
theorem cells23 : Try.prog.cellsOf 23 = 1 := by kernel_rfl
theorem cells2 : Try.prog.cellsOf 2 = 1 := by kernel_rfl
theorem cells9 : Try.prog.cellsOf 9 = 1 := by kernel_rfl
theorem cells24 : Try.prog.cellsOf 24 = 1 := by kernel_rfl
theorem cells25 : Try.prog.cellsOf 25 = 1 := by kernel_rfl
section
variable {H : Type} {enc : TypeId × Value → H} {w : World} {base : Nat} {spare : Nat → Bool} {held : Bool}
theorem u8_wf {k : Int} (h : (Lit.int .u8 k).wf = true) : 0 ≤ k ∧ k < 256 := by
  simp [Lit.wf] at h
  have h1 : IntKind.u8.min = 0 := by kernel_rfl
  have h2 : IntKind.u8.max = 255 := by kernel_rfl
  omega
theorem five {cs : List Value} (h : cs.length = 5) : ∃ a b c d e, cs = [a, b, c, d, e] := by
  match cs, h with
  | [a, b, c, d, e], _ => exact ⟨a, b, c, d, e, rfl⟩
theorem trod_value (n : Nat) : ∀ (cs : List Value) (x : DataW H × List MemPlace), DataW.trod enc Try.prog w base spare held n 27 cs = some x → ∃ s : S27, k27.K w s cs ∧ Wf s := by
  induction n using Nat.strongRecOn with
  | _ n ih =>
  intro cs x h
  obtain ⟨xs, n1, rfl, _, hl0, hn5, hf⟩ := DataW.trod_struct Try.underlying27 h
  rw [cells27] at hl0
  obtain ⟨v0, v1, v2, v3, v4, rfl⟩ := five hl0
  have g0 : DataW.trod enc Try.prog w base spare held n1 23 (List.take (Try.prog.cellsOf 23) (List.drop 0 [v0, v1, v2, v3, v4])) = xs[0]? := hf 0 _ rfl
  have g1 : DataW.trod enc Try.prog w base spare held n1 2 (List.take (Try.prog.cellsOf 2) (List.drop 1 [v0, v1, v2, v3, v4])) = xs[1]? := hf 1 _ rfl
  have g2 : DataW.trod enc Try.prog w base spare held n1 9 (List.take (Try.prog.cellsOf 9) (List.drop 2 [v0, v1, v2, v3, v4])) = xs[2]? := hf 2 _ rfl
  have g3 : DataW.trod enc Try.prog w base spare held n1 24 (List.take (Try.prog.cellsOf 24) (List.drop 3 [v0, v1, v2, v3, v4])) = xs[3]? := hf 3 _ rfl
  have g4 : DataW.trod enc Try.prog w base spare held n1 25 (List.take (Try.prog.cellsOf 25) (List.drop 4 [v0, v1, v2, v3, v4])) = xs[4]? := hf 4 _ rfl
  have hlen : xs.length = 5 := by rw [hn5]; rfl
  simp only [cells23, cells2, cells9, cells24, cells25, List.drop_zero, List.drop_succ_cons, List.take_succ_cons, List.take_zero] at g0 g1 g2 g3 g4
  rw [List.getElem?_eq_getElem (by omega)] at g0 g1 g2 g3 g4
  obtain ⟨k, e0, _, w0⟩ := DataW.trod_int Try.underlying23 g0
  obtain ⟨a, e1, _, _⟩ := DataW.trod_int Try.underlying2 g1
  obtain ⟨s, e2, _, _⟩ := DataW.trod_string Try.underlying9 g2
  obtain ⟨r, e4, _, _⟩ := DataW.trod_int Try.underlying25 g4
  simp only [List.cons.injEq, and_true] at e0 e1 e2 e4
  subst e0
  subst e1
  subst e2
  subst e4
  have w0' : 0 ≤ k ∧ k < 256 := by
    have := u8_wf w0
    omega
  clear g0 g1 g2 g4
  rcases DataW.trod_slice Try.underlying24 g3 with ⟨e3, _⟩ | ⟨ad, len, cap, elems, rest, n2, hn2, e3, _, hb, hl, hm, hle, hx, _⟩
  · simp only [List.cons.injEq, and_true] at e3
    subst e3
    exact ⟨⟨k, a, s, [], r⟩, k27_mk w ⟨k, a, s, [], r⟩ (A3 := none) (c3 := 0) (Nat.le_refl _) (Kd.C_nil k27 w), .mk w0'.1 w0'.2 (by simp) (by simp)⟩
  · simp only [List.cons.injEq, and_true] at e3
    subst e3
    have hlt : n2 < n1 + 1 := by omega
    have hel : ∀ i, i < len → ∃ s : S27, (∃ cs, cs.length = 5 ∧ k27.K w s cs ∧ ∀ j u, cs[j]? = some u → w.cell? (ad.add (i * 5 + j)) = some u) ∧ Wf s := by
      intro i hi
      have hxi := hx i hi
      rw [List.getElem?_eq_getElem (by omega)] at hxi
      obtain ⟨cs, h1, h2⟩ := Option.bind_eq_some_iff.1 hxi
      rw [cells27] at h1
      obtain ⟨s', hK, hW⟩ := ih n2 hlt cs _ h2
      obtain ⟨_, hl5, hc⟩ := World.cells?_some h1
      refine ⟨s', ⟨cs, hl5, hK, fun j u hj => ?_⟩, hW⟩
      have hj5 : j < 5 := by have := (List.getElem?_eq_some_iff.1 hj).1; omega
      rw [← Go.Deep.add_add, hc j hj5, hj]
    have : Inhabited S27 := ⟨z27⟩
    obtain ⟨S, hS⟩ := Go.Deep.choose_lt hel
    have hlm : len ≤ 9223372036854775807 := by unfold maxLen at hm; omega
    have hlS : ((List.range len).map S).length = len := by simp
    refine ⟨⟨k, a, s, (List.range len).map S, r⟩, ?_, .mk w0'.1 w0'.2 (by rw [hlS]; exact hlm) ?_⟩
    · have hK := k27_mk w ⟨k, a, s, (List.range len).map S, r⟩ (A3 := some ad) (c3 := cap) (by rw [hlS]; exact hl) ?_
      · rw [hlS] at hK; exact hK
      · refine ⟨rfl, by rw [hlS]; exact hlm, fun _ => ⟨ad, rfl, fun j p hj => ?_⟩⟩
        have hj' : j < len := by have := (List.getElem?_eq_some_iff.1 hj).1; simpa using this
        have hp : p = S j := by rw [List.getElem?_map, List.getElem?_range hj'] at hj; exact (Option.some.inj hj).symm
        subst hp
        obtain ⟨⟨cs, h5, hK, hc⟩, _⟩ := hS j hj'
        exact ⟨cs, h5, hK, hc⟩
    · intro y hy
      obtain ⟨i, hi, rfl⟩ := List.mem_map.1 hy
      exact (hS i (List.mem_range.1 hi)).2
theorem heap27 : Kd.Heap k27 := Kd.heap_fix fun d hd => Kd.heap_iso _ (Kd.heap_pair (Kd.heap_int _) (Kd.heap_pair (Kd.heap_int _) (Kd.heap_pair Kd.heap_string (Kd.heap_pair (Kd.heap_slice 27 hd) (Kd.heap_int _)))))
theorem all_F {W : World} {A : Option Addr} {n : Nat} {xs : List S27} (h : Kd.C k27 W A n xs) : Kd.F k27 W (fun k => k < W.heap.size) A n xs := Kd.C_F heap27 h
end
end Go.Proofs.Ythkemcekcfccpaa.PBrandCompares
end
section
namespace Go.Proofs.Ythkemcekcfccpaa.PBrandCompares
open Go.RowKit Go.Proofs.YthkemcekcfccpaaW.PrintWords Go.Proofs.YthkemcekcfccpaaW.PrintLast Go.Proofs.YthkemcekcfccpaaW.PrintMore
attribute [local go_sem] max2_int min2_int max_two min_two max_three min_three max_four min_four   -- for this text's walks alone
set_option linter.unusedVariables false
set_option linter.unusedSimpArgs false
mutual
def posternlaw04_alike.j0 : Nat → Bool → Int → Int → ByteArray → List (S27) → Int → Int → Int → ByteArray → List (S27) → Int → Option (Bool)
  | 0, _, _, _, _, _, _, _, _, _, _, _ => none
  | k + 1, x40, x155000, x155001, x155002, x155003, x155004, x156000, x156001, x156002, x156003, x156004 => if x40 = true then (some false) else (posternlaw04_alike.l0 k 0 x155000 x155001 x155002 x155003 x155004 x156000 x156001 x156002 x156003 x156004)
def posternlaw04_alike.l0 : Nat → Int → Int → Int → ByteArray → List (S27) → Int → Int → Int → ByteArray → List (S27) → Int → Option (Bool)
  | 0, _, _, _, _, _, _, _, _, _, _, _ => none
  | k + 1, x5, x155000, x155001, x155002, x155003, x155004, x156000, x156001, x156002, x156003, x156004 => if x5 < (x155003.length : Int) then (if 0 ≤ x5 then (if x5 < (x156003.length : Int) then ((posternlaw04_alike.f k ((rd_T27 x155003 x5).f0) ((rd_T27 x155003 x5).f1) ((rd_T27 x155003 x5).f2) ((rd_T27 x155003 x5).f3) ((rd_T27 x155003 x5).f4) ((rd_T27 x156003 x5).f0) ((rd_T27 x156003 x5).f1) ((rd_T27 x156003 x5).f2) ((rd_T27 x156003 x5).f3) ((rd_T27 x156003 x5).f4)).bind fun t158 => (if t158 = true then (posternlaw04_alike.l0 k (wrap64 (x5 + 1)) x155000 x155001 x155002 x155003 x155004 x156000 x156001 x156002 x156003 x156004) else (some false))) else (none)) else (none)) else (some true)
def posternlaw04_alike.f : Nat → Int → Int → ByteArray → List (S27) → Int → Int → Int → ByteArray → List (S27) → Int → Option (Bool)
  | 0, _, _, _, _, _, _, _, _, _, _ => none
  | k + 1, a0_0, a0_1, a0_2, l0_3, a0_4, a1_0, a1_1, a1_2, l1_3, a1_4 => if a0_0 = a1_0 then (if a0_1 = a1_1 then (if a0_2.toList = a1_2.toList then (if a0_4 = a1_4 then (posternlaw04_alike.j0 k ((l0_3.length : Int) != (l1_3.length : Int)) a0_0 a0_1 a0_2 l0_3 a0_4 a1_0 a1_1 a1_2 l1_3 a1_4) else (posternlaw04_alike.j0 k true a0_0 a0_1 a0_2 l0_3 a0_4 a1_0 a1_1 a1_2 l1_3 a1_4)) else (posternlaw04_alike.j0 k true a0_0 a0_1 a0_2 l0_3 a0_4 a1_0 a1_1 a1_2 l1_3 a1_4)) else (posternlaw04_alike.j0 k true a0_0 a0_1 a0_2 l0_3 a0_4 a1_0 a1_1 a1_2 l1_3 a1_4)) else (posternlaw04_alike.j0 k true a0_0 a0_1 a0_2 l0_3 a0_4 a1_0 a1_1 a1_2 l1_3 a1_4)
end
end Go.Proofs.Ythkemcekcfccpaa.PBrandCompares
end
section
namespace Go.Proofs.Ythkemcekcfccpaa.PBrandCompares
open Go.RowKit Go.Proofs.YthkemcekcfccpaaW.PrintWords Go.Proofs.YthkemcekcfccpaaW.PrintLast Go.Proofs.YthkemcekcfccpaaW.PrintMore
open Go.Proofs.Ythkemcekcfccpaa.GBrandCompares
set_option linter.unusedVariables false
set_option linter.unusedSimpArgs false
abbrev GET (x : S27) (A : Option Addr) (c g : Nat) (w : World) (R : Ending → World → Prop) : Prop :=
  Calls Try.prog 19 #[.pointer (some ⟨g, 0, none⟩), .agg #[.int .u8 x.f0, .int .i64 x.f1, .string x.f2, .slice A x.f3.length c, .int .i64 x.f4]] w R
theorem may_z : mayV z27 = true := by simp [mayV, measureV, takeV, z27, empty_b]
where empty_b : (⟨#[]⟩ : ByteArray) = ByteArray.empty := rfl
set_option maxHeartbeats 400000 in
theorem get_err (x : S27) (A : Option Addr) (c g : Nat) (w : World) (E : Int) (hE : (E != 0) = true) (R : World → Prop)
    (hfind : Calls Try.prog 39 #[.pointer (some ⟨g, 0, none⟩), .agg #[.int .u8 x.f0, .int .i64 x.f1, .string x.f2, .slice A x.f3.length c, .int .i64 x.f4]] ((w.alloc (.cells #[.int .u8 x.f0, .int .i64 x.f1, .string x.f2, .slice A x.f3.length c, .int .i64 x.f4] 27)).alloc (.cells #[.int .u8 0, .int .i64 0, .string ⟨#[]⟩, .slice none 0 0, .int .i64 0] 27)) fun e w' => e = .returned (.tuple #[.nilIface, .int .i64 E]) ∧ Ex (fun _ => False) ((w.alloc (.cells #[.int .u8 x.f0, .int .i64 x.f1, .string x.f2, .slice A x.f3.length c, .int .i64 x.f4] 27)).alloc (.cells #[.int .u8 0, .int .i64 0, .string ⟨#[]⟩, .slice none 0 0, .int .i64 0] 27)) w') :
    GET x A c g w fun e w' => e = .returned (.tuple #[zval, .bool false, .int .i64 E]) ∧ Ex (fun _ => False) w w' := by
  have HF := Aside0.mk hfind
  clear hfind
  unfold GET
  go_enter Try.func19, Try.ntmps19
  go_wp2_with fail
  refine HF.out.mono ?_
  rintro e w1 ⟨rfl, hx1⟩
  have HB1 := Aside0.mk (show w1.heap[w.heap.size + 1]? = some (.cells #[.int .u8 0, .int .i64 0, .string ⟨#[]⟩, .slice none 0 0, .int .i64 0] 27 (0, 0)) from hx1.blk (blk_new2 w _ _) (fun h => h))
  have HX1 := Aside0.mk ((((Ex.refl (fun _ => False) w).alloc _).alloc _).trans hx1 (fun _ h => h.elim))
  clear hx1
  have bc0 := (blk_cell HB1.out 0).trans rfl
  have bc1 := (blk_cell HB1.out 1).trans rfl
  have bc2 := (blk_cell HB1.out 2).trans rfl
  have bc3 := (blk_cell HB1.out 3).trans rfl
  have bc4 := (blk_cell HB1.out 4).trans rfl
  have bf0 := blk_frozen HB1.out 0
  have bf1 := blk_frozen HB1.out 1
  have bf2 := blk_frozen HB1.out 2
  have bf3 := blk_frozen HB1.out 3
  have bf4 := blk_frozen HB1.out 4
  have bl := lt_of_blk HB1.out
  go_wp2_with fail
  refine bodyPost_ret (results_row_tmp2 rfl _ _ (w.heap.size + 1) 27 _ (0, 0) _ rfl (put27 HB1.out rfl _ _ _ _ _) Try.underlying27 rfl size27) rfl ?_
  exact ⟨rfl, ex_put27 HX1.out (.inr (by omega)) _ _ _ _ _⟩
def Got (v : S27) (had : Bool) (w : World) (e : Ending) (w' : World) : Prop :=
  ∃ (A : Option Addr) (c : Nat), e = .returned (.tuple #[.agg #[.int .u8 v.f0, .int .i64 v.f1, .string v.f2, .slice A v.f3.length c, .int .i64 v.f4], .bool had, .int .i64 0]) ∧ v.f3.length ≤ c ∧ Kd.R k27 27 w' w.heap.size (fun k => w.heap.size ≤ k) (.slice A v.f3.length c) v.f3 ∧ Ex (fun _ => False) w w'
set_option maxHeartbeats 1000000 in
set_option maxRecDepth 100000 in
theorem get_at (x v kx : S27) (A B C : Option Addr) (c d ck g mb : Nat) (n : Int) (had : Bool) (b3 b4 : Value) (w : World) (ok : Nat → Prop) (h : w.heap[g]? = some (.cells #[.map (some mb), b3, b4] 66 (0, 0))) (hF : Kd.F k27 w ok A x.f3.length x.f3) (hm : mayV x = true) (hv : mayV v = true) (hd : v.f3.length ≤ d) (okv : Nat → Prop) (hFv : Kd.F k27 w okv B v.f3.length v.f3)
    (m : Mk) (hmk : ∀ m2, MarkOf x m2 → m2 = m) (hkey : Key m)
    (hlk : ∀ w1, Ex (fun _ => False) w w1 → (Instr.lookup 63 (.map (some mb)) m.val true).run Try.prog w1 = .ok (.tuple #[.agg #[.int .u8 kx.f0, .int .i64 kx.f1, .string kx.f2, .slice C kx.f3.length ck, .int .i64 kx.f4, .int .u8 v.f0, .int .i64 v.f1, .string v.f2, .slice B v.f3.length d, .int .i64 v.f4, .int .i64 n], .bool had]) w1) :
    GET x A c g w (Got v had w) := by
  have HG := Aside0.mk h
  have HF := Aside0.mk hF
  have HM := Aside0.mk hm
  have HV := Aside0.mk (And.intro hv hd)
  have HFV := Aside0.mk hFv
  have HMK := Aside0.mk hmk
  have HKEY := Aside0.mk hkey
  have HLK := Aside0.mk hlk
  clear h hF hm hv hd hFv hmk hkey hlk
  unfold GET
  go_enter Try.func19, Try.ntmps19
  go_wp2_with fail
  refine (find_key' x A c g mb _ _ _ ok (blk_alloc (blk_alloc HG.out _) _) (Kd.F_alloc (Kd.F_alloc HF.out _) _) HM.out).mono ?_
  rintro e w1 ⟨m2, h1, h2, hx1, rfl⟩
  have hm2 := HMK.out m2 h1
  subst hm2
  have hk' := HKEY.out.1
  rw [hk']
  have HB1 := Aside0.mk (show w1.heap[w.heap.size + 1]? = some (.cells #[.int .u8 0, .int .i64 0, .string ⟨#[]⟩, .slice none 0 0, .int .i64 0] 27 (0, 0)) from hx1.blk (blk_new2 w _ _) (fun h => h))
  have HG1 := Aside0.mk (hx1.blk (blk_alloc (blk_alloc HG.out _) _) (fun h => h))
  have HX1 := Aside0.mk ((((Ex.refl (fun _ => False) w).alloc _).alloc _).trans hx1 (fun _ h => h.elim))
  have hlk' := HLK.out w1 HX1.out
  obtain ⟨t1, u1, hu1⟩ := m2.val_iface
  rw [hu1]
  rw [hu1] at hlk'
  clear hx1 hk' h1 h2 hu1
  have gc0 := (blk_cell HG1.out 0).trans rfl
  have gl := lt_of_blk HG1.out
  go_wp2_with fail
  refine (own_calls v B d _ okv HV.out.2 (Kd.F_alloc (ex_F HX1.out HFV.out (fun _ _ h => h)) _) HV.out.1).mono ?_
  rintro e w2 ⟨v2, rfl, A3, c3, rfl, l3, hR, hx2⟩
  have HB2 := Aside0.mk (hx2.blk (blk_alloc HB1.out _) (fun h => h))
  have HX2 := Aside0.mk ((HX1.out.alloc (.cells #[.int .u8 kx.f0, .int .i64 kx.f1, .string kx.f2, .slice C kx.f3.length ck, .int .i64 kx.f4, .int .u8 v.f0, .int .i64 v.f1, .string v.f2, .slice B v.f3.length d, .int .i64 v.f4, .int .i64 n] 78)).trans hx2 (fun _ h => h.elim))
  have HRR := Aside0.mk hR
  have HL3 := Aside0.mk l3
  have HSZ := Aside0.mk (show w.heap.size + 1 < w1.heap.size from lt_of_blk HB1.out)
  have bc0 := (blk_cell HB2.out 0).trans rfl
  have bc1 := (blk_cell HB2.out 1).trans rfl
  have bc2 := (blk_cell HB2.out 2).trans rfl
  have bc3 := (blk_cell HB2.out 3).trans rfl
  have bc4 := (blk_cell HB2.out 4).trans rfl
  have bf0 := blk_frozen HB2.out 0
  have bf1 := blk_frozen HB2.out 1
  have bf2 := blk_frozen HB2.out 2
  have bf3 := blk_frozen HB2.out 3
  have bf4 := blk_frozen HB2.out 4
  have bl := lt_of_blk HB2.out
  clear hx2 hR l3 gc0 gl hlk'
  go_wp2_with fail
  refine bodyPost_ret (results_row_tmp2 rfl _ _ (w.heap.size + 1) 27 _ (0, 0) _ rfl (put27 HB2.out rfl _ _ _ _ _) Try.underlying27 rfl size27) rfl ?_
  refine ⟨A3, c3, rfl, HL3.out, ?_, ex_put27 HX2.out (.inr (by omega)) _ _ _ _ _⟩
  have hR := Kd.R_lower (Kd.R_mono (Kd.R_bound HRR.out) (fun k hk => (show w.heap.size ≤ k ∧ k ≠ w.heap.size + 1 by have h1 := hk.1; have := HSZ.out; simp at h1; omega))) (show w.heap.size ≤ _ by have := HSZ.out; simp; omega)
  refine Kd.R_mono (Kd.R_step hR ?_) (fun k hk => hk.1)
  intro k hk hlt
  exact (ex_put27 (Ex.refl (fun b => b = w.heap.size + 1) _) (.inl rfl) _ _ _ _ _).block k hlt hk.2
theorem mem_row {T : Nat → Prop} {w : World} {g mb ob : Nat} {rows : List Row} {came : Nat} (h : Tab w g mb ob T rows came) {j : Nat} {r : Row} (hr : rows[j]? = some r) : r.Good w (fun b => T b ∧ b ≠ g ∧ b ≠ mb ∧ b ≠ ob) :=
  h.good r (List.mem_of_getElem? hr)
def GetS (x : S27) (rows : List Row) (w : World) (e : Ending) (w' : World) : Prop :=
  mayV x = false ∧ e = .returned (.tuple #[zval, .bool false, .int .i64 2]) ∧ Ex (fun _ => False) w w' ∨
  mayV x = true ∧ ¬ KeyV x ∧ e = .returned (.tuple #[zval, .bool false, .int .i64 40]) ∧ Ex (fun _ => False) w w' ∨
  mayV x = true ∧ ∃ m, MarkOf x m ∧ Key m ∧ ((m ∉ rows.map (·.m) ∧ Got z27 false w e w') ∨ ∃ (j : Nat) (r : Row), rows[j]? = some r ∧ r.m = m ∧ Got r.v true w e w')
theorem get_calls (x : S27) (A : Option Addr) (c g mb ob : Nat) (T ok : Nat → Prop) (rows : List Row) (came : Nat) (w : World) (h : Tab w g mb ob T rows came) (hF : Kd.F k27 w ok A x.f3.length x.f3) : GET x A c g w (GetS x rows w) := by
  have hF2 := Kd.F_alloc (Kd.F_alloc hF (.cells #[.int .u8 x.f0, .int .i64 x.f1, .string x.f2, .slice A x.f3.length c, .int .i64 x.f4] 27)) (.cells #[.int .u8 0, .int .i64 0, .string ⟨#[]⟩, .slice none 0 0, .int .i64 0] 27)
  have hg2 := blk_alloc (blk_alloc h.hg (.cells #[.int .u8 x.f0, .int .i64 x.f1, .string x.f2, .slice A x.f3.length c, .int .i64 x.f4] 27)) (.cells #[.int .u8 0, .int .i64 0, .string ⟨#[]⟩, .slice none 0 0, .int .i64 0] 27)
  cases hm : mayV x with
  | false => exact (get_err x A c g w 2 rfl (fun _ => True) (find_arg x A c g mb _ _ _ ok hg2 hF2 hm)).mono (fun e w' he => .inl ⟨hm, he.1, he.2⟩)
  | true =>
    by_cases hk : KeyV x
    · obtain ⟨m, h1, h2, h3⟩ := key_mark hm hk
      obtain ⟨i0, hi0, hz0, _, _⟩ := info_parts info78
      obtain ⟨es, cl, hmb, hes⟩ := h.hm
      have hlk : ∀ w1, Ex (fun _ => False) w w1 → (Instr.lookup 63 (.map (some mb)) m.val true).run Try.prog w1 = .ok (.tuple #[(under es zrow.val (posMk m (rows.map (·.m)))).1, .bool (under es zrow.val (posMk m (rows.map (·.m)))).2]) w1 :=
        fun w1 hx => run_lookup 63 78 Try.underlying63 hi0 hz0 (hx.blk hmb (fun h => h)) h2 h.key_all (h.keys_map hes) true
      cases hp : posMk m (rows.map (·.m)) with
      | none =>
        rw [hp] at hlk
        refine (get_at x z27 z27 A none none c 0 0 g mb 0 false _ _ w ok h.hg hF hm may_z (Nat.zero_le _) (fun _ => False) (fun W' _ => Kd.C_nil k27 W') m h3 h2 hlk).mono (fun e w' he => .inr (.inr ⟨hm, m, h1, h2, .inl ⟨?_, he⟩⟩))
        exact fun hmem => posMk_none h2.1 hp m hmem rfl
      | some j =>
        have hj := posMk_key h2.1 (fun m h' => (h.key_all m h').1) hp
        rw [List.getElem?_map] at hj
        cases hr : rows[j]? with
        | none => rw [hr] at hj; simp at hj
        | some r =>
          rw [hr] at hj
          have hrm : r.m = m := by simpa using hj
          rw [hp, under_row hes hr] at hlk
          have hgd := mem_row h hr
          exact (get_at x r.v r.k A r.B r.A c r.cb r.ca g mb r.n true _ _ w ok h.hg hF hm hgd.mayv hgd.lv _ hgd.fv m h3 h2 hlk).mono (fun e w' he => .inr (.inr ⟨hm, m, h1, h2, .inr ⟨j, r, hr, hrm, he⟩⟩))
    · have hfind : Calls Try.prog 39 #[.pointer (some ⟨g, 0, none⟩), .agg #[.int .u8 x.f0, .int .i64 x.f1, .string x.f2, .slice A x.f3.length c, .int .i64 x.f4]] ((w.alloc (.cells #[.int .u8 x.f0, .int .i64 x.f1, .string x.f2, .slice A x.f3.length c, .int .i64 x.f4] 27)).alloc (.cells #[.int .u8 0, .int .i64 0, .string ⟨#[]⟩, .slice none 0 0, .int .i64 0] 27)) fun e w' => e = .returned (.tuple #[.nilIface, .int .i64 40]) ∧ Ex (fun _ => False) ((w.alloc (.cells #[.int .u8 x.f0, .int .i64 x.f1, .string x.f2, .slice A x.f3.length c, .int .i64 x.f4] 27)).alloc (.cells #[.int .u8 0, .int .i64 0, .string ⟨#[]⟩, .slice none 0 0, .int .i64 0] 27)) w' := by
        refine (find_key' x A c g mb _ _ _ ok hg2 hF2 hm).mono ?_
        rintro e w' ⟨m, h1, h2, hx, he⟩
        rw [no_key hk m h1, if_neg (by decide)] at he
        exact ⟨he, hx⟩
      exact (get_err x A c g w 40 rfl (fun _ => True) hfind).mono (fun e w' he => .inr (.inl ⟨hm, hk, he.1, he.2⟩))
end Go.Proofs.Ythkemcekcfccpaa.PBrandCompares
end
section
namespace Go.Proofs.Ythkemcekcfccpaa.PBrandCompares
open Go.RowKit Go.Proofs.YthkemcekcfccpaaW.PrintWords Go.Proofs.YthkemcekcfccpaaW.PrintLast Go.Proofs.YthkemcekcfccpaaW.PrintMore
open Go.Proofs.Ythkemcekcfccpaa.GBrandCompares
set_option linter.unusedVariables false
set_option linter.unusedSimpArgs false
theorem mark_inj (m : Mk) : ∀ x y : S27, MarkOf x m → MarkOf y m → m.keys = true → Fields x → Fields y → x = y := by
  induction m with
  | pair a b iha ihb =>
    intro x y h h2 hk hf hg
    obtain ⟨k3, y1, z1, hl, ha, hb⟩ := h
    obtain ⟨k32, y2, z2, hl2, ha2, hb2⟩ := h2
    simp only [Mk.keys, Bool.and_eq_true] at hk
    have m1 : y1 ∈ x.f3 := by rw [hl]; simp
    have m2 : z1 ∈ x.f3 := by rw [hl]; simp
    have m3 : y2 ∈ y.f3 := by rw [hl2]; simp
    have m4 : z2 ∈ y.f3 := by rw [hl2]; simp
    have e1 := iha y1 y2 ha ha2 hk.1 (hf.sub m1) (hg.sub m3)
    have e2 := ihb z1 z2 hb hb2 hk.2 (hf.sub m2) (hg.sub m4)
    have f1 := hf.now
    have f2 := hg.now
    unfold Field at f1 f2
    exact S27.ext (by omega) (by omega) (same_of_nil (by omega) (by omega)) (by rw [hl, hl2, e1, e2]) (by omega)
  | row v => intro x y h h2 hk; simp [Mk.keys] at hk
  | _ =>
    intro x y h h2 hk hf hg
    have f1 := hf.now
    have f2 := hg.now
    have hs : shapeV x = shapeV y := by rw [mark_shape f1 h, mark_shape f2 h2]
    have h5 : shapeV x ≠ 5 := by rw [mark_shape f1 h]; simp
    have h3 : shapeV x ≠ 3 := by rw [mark_shape f1 h]; simp
    have hc := plain_cmp f1 f2 h h2 hs h5 h3
    by_cases e : x = y
    · exact e
    · exfalso
      have h0 := hc.2 e
      rcases cmp_keys _ _ hk hk with ⟨h1, _⟩ | ⟨_, h1⟩
      · rw [h0] at h1; simp at h1
      · exact h1 rfl
structure Puts (K V : List S27) (i : Nat) (rows : List Row) (came : Nat) : Prop where
  few : came ≤ i
  cnt : rows.length ≤ i
  all : ∀ l k v, l < i → K[l]? = some k → V[l]? = some v → mayV k = true → mayV v = true → KeyV k → k ∈ rows.map (·.k)
  last : ∀ (j : Nat) (r : Row), rows[j]? = some r → ∃ l, l < i ∧ K[l]? = some r.k ∧ V[l]? = some r.v ∧ mayV r.v = true ∧ ∀ l' v', l < l' → l' < i → K[l']? = some r.k → V[l']? = some v' → mayV v' = false
structure El where
  x : S27
  A : Option Addr
  c : Nat
def El.cells (e : El) : List Value := [.int .u8 e.x.f0, .int .i64 e.x.f1, .string e.x.f2, .slice e.A e.x.f3.length e.c, .int .i64 e.x.f4]
structure El.Good (w : World) (ok : Nat → Prop) (e : El) : Prop where
  le : e.x.f3.length ≤ e.c
  F : Kd.F k27 w ok e.A e.x.f3.length e.x.f3
end Go.Proofs.Ythkemcekcfccpaa.PBrandCompares
end
section
namespace Go.Proofs.Ythkemcekcfccpaa.PBrandCompares
open Go.RowKit Go.Proofs.YthkemcekcfccpaaW.PrintWords Go.Proofs.YthkemcekcfccpaaW.PrintLast Go.Proofs.YthkemcekcfccpaaW.PrintMore
open Go.Proofs.Ythkemcekcfccpaa.GBrandCompares
set_option linter.unusedVariables false
set_option linter.unusedSimpArgs false
section
variable (x y : S27) (A B : Option Addr) (c d g mb ob : Nat) (T ok : Nat → Prop) (rows : List Row) (came : Nat) (w : World) (h : Tab w g mb ob T rows came) (hcame : came < 1000000000) (hc : x.f3.length ≤ c) (hd : y.f3.length ≤ d)
    (hF : Kd.F k27 w ok A x.f3.length x.f3) (hF2 : Kd.F k27 w ok B y.f3.length y.f3) (hok : ∀ b, ok b → ¬ T b)
include h hcame hc hd hF hF2 hok
end
theorem row_key {T : Nat → Prop} {w : World} {g mb ob : Nat} {rows : List Row} {came : Nat} (h : Tab w g mb ob T rows came) {x : S27} {m : Mk} (hx : MarkOf x m) (hm : mayV x = true) (hk : m.keys = true) {r : Row} (hr : r ∈ rows) : r.m = m ↔ r.k = x := by
  have hg := h.good r hr
  constructor
  · intro e
    exact mark_inj m r.k x (e ▸ hg.mark) hx hk ((may_iff _).1 hg.mayk).2.2 ((may_iff _).1 hm).2.2
  · intro e
    exact (mark_one m x r.m hx (e ▸ hg.mark)).2 hk
end Go.Proofs.Ythkemcekcfccpaa.PBrandCompares
end
section
namespace Go.Proofs.Ythkemcekcfccpaa.PBrandCompares
open Go.RowKit Go.Proofs.YthkemcekcfccpaaW.PrintWords Go.Proofs.YthkemcekcfccpaaW.PrintLast Go.Proofs.YthkemcekcfccpaaW.PrintMore
open Go.Proofs.Ythkemcekcfccpaa.GBrandCompares
set_option linter.unusedVariables false
set_option linter.unusedSimpArgs false
theorem Tab.bound {T : Nat → Prop} {w : World} {g mb ob : Nat} {rows : List Row} {came : Nat} (h : Tab w g mb ob T rows came) : Tab w g mb ob (fun b => T b ∧ b < w.heap.size) rows came :=
  { h with
    tg := ⟨h.tg, lt_of_blk h.hg⟩
    tm := ⟨h.tm, let ⟨_, _, h1, _⟩ := h.hm; lt_of_blk h1⟩
    tb := ⟨h.tb, let ⟨_, _, h1, _⟩ := h.ho; lt_of_blk h1⟩
    good := fun r hr => { h.good r hr with
      fk := Kd.F_mono (Kd.F_bound (h.good r hr).fk) (fun k hk => ⟨⟨hk.1.1, hk.2⟩, hk.1.2⟩)
      fv := Kd.F_mono (Kd.F_bound (h.good r hr).fv) (fun k hk => ⟨⟨hk.1.1, hk.2⟩, hk.1.2⟩) } }
structure Head (K V : List S27) (w0 : World) (g mb ob : Nat) (i : Nat) (v6 : Value) (es : List El) (rows : List Row) (came : Nat) (T : Nat → Prop) (w : World) : Prop where
  met : w.ownsRow w0.heap.size 27 5 v6 es.length (es.flatMap El.cells)
  els : ∀ e ∈ es, e.Good w (fun k => k < w0.heap.size)
  tab : Tab w g mb ob T rows came
  foot : ∀ b, T b → w0.heap.size ≤ b ∧ b < w.heap.size ∧ some b ≠ v6.ownBlock
  puts : Puts K V i rows came
  keys : es.map (·.x) = rows.map (·.k)
  grown : Ex (fun _ => False) w0 w
section
variable {K V : List S27} {w0 w w1 : World} {g mb ob i came : Nat} {v6 : Value} {es : List El} {rows : List Row} {T : Nat → Prop}
end
end Go.Proofs.Ythkemcekcfccpaa.PBrandCompares
end
section
namespace Go.Proofs.Ythkemcekcfccpaa.GBrandCompares
open Go.RowKit
set_option linter.unusedVariables false
set_option linter.unusedSimpArgs false
section
variable {P : Program} {ops : Array Oper} {Q : Exit → Act → World → Prop}
def dstOf (ops : Array Oper) (i : Nat) : Option Tmp := (ops[i]?).bind (·.dst)
def waits (o : Oper) (j : Nat) : Bool := o.after.any (fun e => Region.binds .any e && e.on == j)
def shapeB (ops : Array Oper) (m size : Nat) (lag : List Nat) : Bool :=
  decide (m ≤ ops.size) &&
  (List.range ops.size).all (fun i => match ops[i]? with
    | some o => o.after.all (fun e => !Region.binds .any e || decide (e.on < i)) && (if i < m then (match o.dst with | some d => decide (d < size) | none => true)
      else (List.range i).all (fun j => lag.contains j || waits o j || (decide (m ≤ j) && waits o (i - 1))))
    | none => true) &&
  (List.range m).all (fun i => (List.range i).all (fun j => match dstOf ops i, dstOf ops j with | some d, some e => d != e | _, _ => true)) &&
  Region.noSelect ops && lag.all (fun i => decide (i < m) && (List.range ops.size).all (fun j => i == j || match ops[i]?, ops[j]? with | some oi, some oj => waits oi j || waits oj i || oi.apart ops oj | _, _ => true))
structure Shape (ops : Array Oper) (m size : Nat) (lag : List Nat) : Prop where
  le : m ≤ ops.size
  front : ∀ i o, ops[i]? = some o → ∀ e ∈ o.after, Region.binds .any e = true → e.on < i
  bound : ∀ i d, i < m → dstOf ops i = some d → d < size
  tail : ∀ i o, m ≤ i → ops[i]? = some o → ∀ j, j < i → j ∈ lag ∨ (∃ e ∈ o.after, Region.binds .any e = true ∧ e.on = j) ∨ (m ≤ j ∧ ∃ e ∈ o.after, Region.binds .any e = true ∧ e.on = i - 1)
  apart : ∀ i j d, i < m → j < m → i ≠ j → dstOf ops i = some d → dstOf ops j ≠ some d
  nosel : Region.noSelect ops = true
  lagm : ∀ i, i ∈ lag → i < m
  lagf : ∀ i, i ∈ lag → ∀ oi, ops[i]? = some oi → ∀ j oj, ops[j]? = some oj → j ≠ i → waits oi j = true ∨ waits oj i = true ∨ oi.apart ops oj = true
theorem waits_spec {o : Oper} {j : Nat} (h : waits o j = true) : ∃ e ∈ o.after, Region.binds .any e = true ∧ e.on = j := by
  obtain ⟨e, he, h4⟩ := Array.any_eq_true'.1 h
  simp only [Bool.and_eq_true, beq_iff_eq] at h4
  exact ⟨e, he, h4.1, h4.2⟩
theorem shape_of {m size : Nat} {lag : List Nat} (h : shapeB ops m size lag = true) : Shape ops m size lag := by
  simp only [shapeB, Bool.and_eq_true, decide_eq_true_eq, List.all_eq_true, List.mem_range] at h
  obtain ⟨⟨⟨⟨h1, h2⟩, h3⟩, h4⟩, h5⟩ := h
  refine ⟨h1, ?_, ?_, ?_, ?_, h4, fun i hi => (h5 i hi).1, ?_⟩
  · intro i o ho e he hb
    have hlt : i < ops.size := (Array.getElem?_eq_some_iff.1 ho).1
    have := h2 i hlt
    rw [ho] at this
    simp only [Bool.and_eq_true, Array.all_eq_true_iff_forall_mem] at this
    have := this.1 e he
    simpa [hb] using this
  · intro i d hi hd
    have hlt : i < ops.size := by omega
    have := h2 i hlt
    rw [dstOf] at hd
    rw [Array.getElem?_eq_getElem hlt] at this hd
    simp only [hi, if_true, Bool.and_eq_true] at this
    have h4 := this.2
    simp only [Option.bind_some] at hd
    rw [hd] at h4
    simpa using h4
  · intro i o hi ho j hj
    have hlt : i < ops.size := (Array.getElem?_eq_some_iff.1 ho).1
    have := h2 i hlt
    rw [ho] at this
    simp only [if_neg (show ¬ i < m by omega), Bool.and_eq_true, List.all_eq_true, List.mem_range] at this
    have h6 := this.2 j hj
    simp only [Bool.or_eq_true, List.contains_iff_mem, Bool.and_eq_true, decide_eq_true_eq] at h6
    rcases h6 with (h6 | h6) | h6
    · exact .inl h6
    · exact .inr (.inl (waits_spec h6))
    · exact .inr (.inr ⟨h6.1, waits_spec h6.2⟩)
  · have key : ∀ i j d, i < m → j < i → dstOf ops i = some d → dstOf ops j ≠ some d := by
      intro i j d hi hj hd he
      have := h3 i hi j hj
      rw [hd, he] at this
      simp at this
    intro i j d hi hj hne hd he
    rcases Nat.lt_or_gt_of_ne hne with h | h
    · exact key j i d hj h he hd
    · exact key i j d hi h hd he
  · intro i hi oi hoi j oj hoj hne
    have hlt : j < ops.size := (Array.getElem?_eq_some_iff.1 hoj).1
    have h6 := (h5 i hi).2 j hlt
    rw [hoi, hoj] at h6
    simp only [Bool.or_eq_true, beq_iff_eq] at h6
    rcases h6 with h6 | (h6 | h6) | h6
    · exact absurd h6.symm hne
    · exact .inl h6
    · exact .inr (.inl h6)
    · exact .inr (.inr h6)
structure Both where
  p : Nat
  q : Nat
  J : Bool → Bool → Value → World → Prop
structure Come (ops : Array Oper) (base : Array Value) (ds : List Deferred) (m : Nat) (b : Both) (S : Nat → Prop) (spec : Nat → Value → World → Prop) (W : World) (l : Array Bool) (a : Act) (w : World) : Prop where
  defers : a.defers = ds
  size : a.tmps.size = base.size
  grown : Ex S W w
  val : ∀ i, i < m → l.getD i false = true → ∃ x, spec i x w ∧ ∀ d, dstOf ops i = some d → a.tmps.getD d undef = x
  old : ∀ t, (∀ i, i < m → l.getD i false = true → dstOf ops i ≠ some t) → a.tmps.getD t undef = base.getD t undef
  inv : b.J (l.getD b.p false) (l.getD b.q false) (match dstOf ops b.q with | some d => a.tmps.getD d undef | none => undef) w
def StepOk (P : Program) (ops : Array Oper) (base : Array Value) (m : Nat) (S : Nat → Prop) (Sf : Nat → Nat → Prop) (spec : Nat → Value → World → Prop) (W : World) (i : Nat) : Prop :=
  ∀ (o : Oper), ops[i]? = some o → ∀ (ρ : Operand → Value) (yl : Nat → Option Bool) (w : World), Ex S W w →
    (∀ v, ρ (.const v) = v) → (∀ f, ρ (.func f) = .func (.func f) #[] #[]) → (∀ g, ρ (.global g) = .pointer (some ⟨g, 0, none⟩)) →
    (∀ j, o.after.any (fun e => Region.binds .any e && e.on == j) = true → ∃ x, spec j x w ∧ (∀ d, dstOf ops j = some d → ρ (.tmp d) = x) ∧ ((dstOf ops j).isSome = true → yl j = match x with | .bool b => some b | _ => none)) →
    (∀ t, (List.range m).all (fun i => dstOf ops i != some t) = true → ρ (.tmp t) = base.getD t undef) →
    if Region.wanted o yl = true then
      (∃ x w', (execOp ρ o).run P w = .ok (.value x) w' ∧ Ex (Sf i) w w' ∧ spec i x w') ∨
      (∃ f args, (execOp ρ o).run P w = .ok (.enter f args) w ∧ Calls P f args w fun e w' => ∃ x, e = .returned x ∧ Ex (Sf i) w w' ∧ spec i x w')
    else spec i undef w
def StepOkJ (P : Program) (ops : Array Oper) (base : Array Value) (m : Nat) (b : Both) (S : Nat → Prop) (Sf : Nat → Nat → Prop) (spec : Nat → Value → World → Prop) (W : World) (i : Nat) : Prop :=
  ∀ (o : Oper), ops[i]? = some o → ∀ (ρ : Operand → Value) (yl : Nat → Option Bool) (w : World), Ex S W w →
    (∀ v, ρ (.const v) = v) → (∀ f, ρ (.func f) = .func (.func f) #[] #[]) → (∀ g, ρ (.global g) = .pointer (some ⟨g, 0, none⟩)) →
    (∀ j, o.after.any (fun e => Region.binds .any e && e.on == j) = true → ∃ x, spec j x w ∧ (∀ d, dstOf ops j = some d → ρ (.tmp d) = x) ∧ ((dstOf ops j).isSome = true → yl j = match x with | .bool b => some b | _ => none)) →
    (∀ t, (List.range m).all (fun i => dstOf ops i != some t) = true → ρ (.tmp t) = base.getD t undef) →
    ∀ (bp bq : Bool) (jv : Value), b.J bp bq jv w → (i = b.p → bp = false) → (i = b.q → bq = false) →
    if Region.wanted o yl = true then
      (∃ x w', (execOp ρ o).run P w = .ok (.value x) w' ∧ Ex (Sf i) w w' ∧ spec i x w' ∧ b.J (bp || decide (i = b.p)) (bq || decide (i = b.q)) (if i = b.q ∧ (dstOf ops i).isSome then x else jv) w') ∨
      (∃ f args, (execOp ρ o).run P w = .ok (.enter f args) w ∧ Calls P f args w fun e w' => ∃ x, e = .returned x ∧ Ex (Sf i) w w' ∧ spec i x w' ∧ b.J (bp || decide (i = b.p)) (bq || decide (i = b.q)) (if i = b.q ∧ (dstOf ops i).isSome then x else jv) w')
    else spec i undef w ∧ b.J (bp || decide (i = b.p)) (bq || decide (i = b.q)) (if i = b.q ∧ (dstOf ops i).isSome then undef else jv) w
def PureOk (P : Program) (ops : Array Oper) (base : Array Value) (m : Nat) (S : Nat → Prop) (spec : Nat → Value → World → Prop) (W : World) (i : Nat) : Prop :=
  ∀ (o : Oper), ops[i]? = some o → ∀ (ρ : Operand → Value) (yl : Nat → Option Bool) (w : World), Ex S W w →
    (∀ v, ρ (.const v) = v) → (∀ f, ρ (.func f) = .func (.func f) #[] #[]) → (∀ g, ρ (.global g) = .pointer (some ⟨g, 0, none⟩)) →
    (∀ j, o.after.any (fun e => Region.binds .any e && e.on == j) = true → ∃ x, spec j x w ∧ (∀ d, dstOf ops j = some d → ρ (.tmp d) = x) ∧ ((dstOf ops j).isSome = true → yl j = match x with | .bool b => some b | _ => none)) →
    (∀ t, (List.range m).all (fun i => dstOf ops i != some t) = true → ρ (.tmp t) = base.getD t undef) →
    ∃ x, ((Region.wanted o yl = true ∧ ∀ w', (execOp ρ o).run P w' = .ok (.value x) w') ∨ (Region.wanted o yl = false ∧ x = undef)) ∧ spec i x w
theorem getD_put {a : Act} {d t : Tmp} {x : Value} (h : d < a.tmps.size) : (a.put (some d) x).tmps.getD t undef = if t = d then x else a.tmps.getD t undef := by
  simp only [Act.put, Array.getD_eq_getD_getElem?, Array.getElem?_setIfInBounds]
  by_cases e : d = t
  · subst e; simp [h]
  · rw [if_neg e, if_neg (Ne.symm e)]
theorem Come.step {lag : List Nat} {b : Both} {base : Array Value} {ds : List Deferred} {m : Nat} {spec : Nat → Value → World → Prop} {W : World} {l : Array Bool} {a : Act} {w w' : World} {i : Nat} {x : Value}
    (sh : Shape ops m base.size lag) {S S' : Nat → Prop} (hS : ∀ b, S' b → S b) (hst : ∀ j x, j ≠ i → spec j x w → spec j x w') (h : Come ops base ds m b S spec W l a w) (hi : i < m) (hl : i < l.size) (hun : l.getD i true = false) (hqm : b.q < m)
    (hx : Ex S' w w') (hs : spec i x w') (hJ : b.J (l.getD b.p false || decide (i = b.p)) (l.getD b.q false || decide (i = b.q)) (if i = b.q ∧ (dstOf ops i).isSome then x else (match dstOf ops b.q with | some d => a.tmps.getD d undef | none => undef)) w') : Come ops base ds m b S spec W (l.setIfInBounds i true) (a.put (dstOf ops i) x) w' := by
  have hset : ∀ j, (l.setIfInBounds i true).getD j false = if j = i then true else l.getD j false := by
    intro j
    simp only [Array.getD_eq_getD_getElem?, Array.getElem?_setIfInBounds]
    by_cases e : i = j
    · subst e; simp [hl]
    · rw [if_neg e, if_neg (Ne.symm e)]
  refine ⟨?_, ?_, h.grown.trans hx (fun b hb => .inl (hS b hb)), ?_, ?_, ?_⟩
  · cases dstOf ops i <;> exact h.defers
  · cases dstOf ops i with
    | none => exact h.size
    | some d => simp [Act.put, h.size]
  · intro j hj hjl
    rw [hset] at hjl
    by_cases e : j = i
    · subst e
      refine ⟨x, hs, fun d hd => ?_⟩
      rw [hd, getD_put (by rw [h.size]; exact sh.bound j d hj hd), if_pos rfl]
    · rw [if_neg e] at hjl
      obtain ⟨y, hy, hyd⟩ := h.val j hj hjl
      refine ⟨y, hst _ _ e hy, fun d hd => ?_⟩
      cases hdi : dstOf ops i with
      | none => exact hyd d hd
      | some d' =>
        rw [getD_put (by rw [h.size]; exact sh.bound i d' hi hdi), if_neg ?_]
        · exact hyd d hd
        · intro e2
          subst e2
          exact sh.apart j i d hj hi e hd hdi
  · intro t ht
    have h1 : dstOf ops i ≠ some t := ht i hi (by rw [hset, if_pos rfl])
    have h2 := h.old t (fun j hj hjl => ht j hj (by rw [hset]; split <;> simp [hjl]))
    cases hdi : dstOf ops i with
    | none => exact h2
    | some d' =>
      rw [getD_put (by rw [h.size]; exact sh.bound i d' hi hdi), if_neg ?_]
      · exact h2
      · intro e; subst e; exact h1 hdi
  · have e1 : ∀ j, (l.setIfInBounds i true).getD j false = (l.getD j false || decide (i = j)) := by
      intro j
      rw [hset]
      by_cases e : j = i
      · subst e; simp
      · rw [if_neg e]; simp [Ne.symm e]
    rw [e1, e1]
    have e2 : (match dstOf ops b.q with | some d => (a.put (dstOf ops i) x).tmps.getD d undef | none => undef) = (if i = b.q ∧ (dstOf ops i).isSome then x else (match dstOf ops b.q with | some d => a.tmps.getD d undef | none => undef)) := by
      by_cases e : i = b.q
      · subst e
        cases hd : dstOf ops b.q with
        | none => simp
        | some d => simp only [Option.isSome_some, and_self, if_true]; rw [getD_put (by rw [h.size]; exact sh.bound b.q d hi hd), if_pos rfl]
      · rw [if_neg (fun h => e h.1)]
        cases hd : dstOf ops b.q with
        | none => rfl
        | some d =>
          cases hdi : dstOf ops i with
          | none => rfl
          | some d' =>
            simp only
            rw [getD_put (by rw [h.size]; exact sh.bound i d' hi hdi), if_neg (fun e3 : d = d' => sh.apart i b.q d' hi hqm e hdi (by rw [← e3]; exact hd))]
    rw [e2]
    exact hJ
theorem any_tail {lag : List Nat} {m size : Nat} (sh : Shape ops m size lag) : ∀ (r k : Nat) (l : Array Bool) (a : Act) (w : World), k + r = ops.size → m ≤ k → l.size = ops.size → (∀ j, j < k → l.getD j false = true) → (∀ j, k ≤ j → j < ops.size → l.getD j true = false) →
    wpList P ops Q (ops.toList.drop k) a w → wpAny P .any ops Q r l a w := by
  intro r
  induction r with
  | zero =>
    intro k l a w hk hm hl h1 h2 h
    refine ⟨?_, ?_⟩
    · by_cases hne : Region.ready .any ops l = []
      · exact hne
      · obtain ⟨j, hj⟩ := List.exists_mem_of_ne_nil _ hne
        obtain ⟨h3, o, ho, _⟩ := mem_ready.1 hj
        have hlt : j < ops.size := (Array.getElem?_eq_some_iff.1 ho).1
        have h4 := h1 j (by omega)
        simp [hl, hlt] at h3 h4
        rw [h3] at h4; simp at h4
    · rw [List.drop_eq_nil_of_le (by simp; omega)] at h
      exact h
  | succ r ih =>
    intro k l a w hk hm hl h1 h2 h
    have hlt : k < ops.size := by omega
    have hok : ops[k]? = some ops[k] := Array.getElem?_eq_getElem hlt
    have hready : ∀ i, i ∈ Region.ready .any ops l ↔ i = k := by
      intro i
      rw [mem_ready]
      constructor
      · rintro ⟨h3, o, ho, h4⟩
        have hil : i < ops.size := (Array.getElem?_eq_some_iff.1 ho).1
        by_cases hik : i < k
        · have h5 := h1 i hik
          simp [hl, hil] at h3 h5
          rw [h3] at h5; simp at h5
        · by_cases hne : i = k
          · exact hne
          · rcases (sh.tail i o (by omega) ho k (by omega)).resolve_left (fun hm' => by have := sh.lagm k hm'; omega) with ⟨e, he, hb, heq⟩ | ⟨_, e, he, hb, heq⟩
            · have h5 := h4 e he hb
              rw [heq] at h5
              have h6 := h2 k (Nat.le_refl _) hlt
              simp [hl, hlt] at h5 h6
              rw [h6] at h5; simp at h5
            · have h5 := h4 e he hb
              rw [heq] at h5
              have hi1 : i - 1 < ops.size := by omega
              have h6 := h2 (i - 1) (by omega) hi1
              simp [hl, hi1] at h5 h6
              rw [h6] at h5; simp at h5
      · rintro rfl
        refine ⟨h2 _ (Nat.le_refl _) hlt, _, hok, fun e he hb => ?_⟩
        exact h1 _ (sh.front i _ hok e he hb)
    have hset : ∀ j, (l.setIfInBounds k true).getD j false = if j = k then true else l.getD j false := by
      intro j
      simp only [Array.getD_eq_getD_getElem?, Array.getElem?_setIfInBounds]
      by_cases e : k = j
      · subst e; simp [hl, hlt]
      · rw [if_neg e, if_neg (Ne.symm e)]
    have hset2 : ∀ j, j ≠ k → (l.setIfInBounds k true).getD j true = l.getD j true := by
      intro j e
      simp only [Array.getD_eq_getD_getElem?, Array.getElem?_setIfInBounds]
      rw [if_neg (Ne.symm e)]
    refine ⟨fun hn => ?_, fun i hi => ?_⟩
    · have := (hready k).2 rfl
      rw [hn] at this; simp at this
    · have hik := (hready i).1 hi
      subst hik
      have h' : wpOp P ops Q i (wpList P ops Q (ops.toList.drop (i + 1))) a w := by
        rw [List.drop_eq_getElem_cons (by simpa using hlt)] at h
        unfold wpOp
        rw [hok]
        simpa [wpList] using h
      refine wpOp_mono (fun a' w' hK => ?_) h'
      refine ih (i + 1) _ a' w' (by omega) (by omega) (by simp [hl]) (fun j hj => ?_) (fun j hj hjn => ?_) hK
      · rw [hset]; split
        · rfl
        · exact h1 j (by omega)
      · rw [hset2 j (by omega)]
        exact h2 j (by omega) hjn
def left (l : Array Bool) : Nat := l.toList.count false
theorem left_set {l : Array Bool} {i : Nat} (hi : i < l.size) (hun : l.getD i true = false) : left (l.setIfInBounds i true) + 1 = left l := by
  unfold left
  have hg : l.toList[i]'(by simpa using hi) = false := by simpa [hi] using hun
  have hpos : 0 < l.toList.count false := List.count_pos_iff.2 (hg ▸ List.getElem_mem _)
  have hc := List.count_set (l := l.toList) (a := true) (b := false) (by simpa using hi)
  rw [hg] at hc
  rw [Array.toList_setIfInBounds, hc]
  simp only [beq_self_eq_true, if_true]
  rw [if_neg (by decide)]
  omega
theorem left_none {l : Array Bool} (h : left l = 0) {j : Nat} (hj : j < l.size) : l.getD j true = true := by
  unfold left at h
  rw [List.count_eq_zero] at h
  cases hg : l.getD j true with
  | true => rfl
  | false =>
    exfalso
    apply h
    have : l.toList[j]'(by simpa using hj) = false := by simpa [hj] using hg
    exact this ▸ List.getElem_mem _
theorem any_front {lag : List Nat} {b : Both} {base : Array Value} {ds : List Deferred} {m : Nat} (hqm : b.q < m) (hlag : b.p ∉ lag ∧ b.q ∉ lag) {spec : Nat → Value → World → Prop} {W : World} (sh : Shape ops m base.size lag) {S : Nat → Prop} {Sf : Nat → Nat → Prop} (hS : ∀ i b, Sf i b → S b)
    (hst : ∀ i j x w w', j ≠ i → spec j x w → Ex (Sf i) w w' → spec j x w') (hstep : ∀ i, i < m → i ∉ lag → StepOkJ P ops base m b S Sf spec W i) (hpure : ∀ i, i ∈ lag → PureOk P ops base m S spec W i) (hQ : ∀ c a d v w, Q (.panic c) (Act.put a d v) w → Q (.panic c) a w)
    (hlast : ∀ (a : Act) (w : World), a.defers = ds → a.tmps.size = base.size → Ex S W w → (∀ i, i < m → ∃ x, spec i x w ∧ ∀ d, dstOf ops i = some d → a.tmps.getD d undef = x) → (∀ t, (∀ i, i < m → dstOf ops i ≠ some t) → a.tmps.getD t undef = base.getD t undef) → (b.p < m → b.J true true (match dstOf ops b.q with | some d => a.tmps.getD d undef | none => undef) w) → wpList P ops Q (ops.toList.drop m) a w) :
    ∀ (r : Nat) (l : Array Bool) (a : Act) (w : World), left l = r → l.size = ops.size → (∀ j, m ≤ j → j < ops.size → l.getD j true = false) → Come ops base ds m b S spec W l a w → wpAny P .any ops Q r l a w := by
  intro r
  induction r with
  | zero =>
    intro l a w hr hl htail hcome
    have hall : ∀ j, j < ops.size → l.getD j false = true := fun j hj => by
      have := left_none hr (j := j) (by omega)
      simp [hl, hj] at this ⊢
      exact this
    have hmn : ops.size ≤ m := by
      rcases Nat.lt_or_ge m ops.size with h | h
      · have h1 := htail m (Nat.le_refl _) h
        have h2 := left_none hr (j := m) (by omega)
        rw [h1] at h2; simp at h2
      · exact h
    refine any_tail sh 0 ops.size l a w (by omega) sh.le hl hall (fun j hj hjn => by omega) ?_
    have := hlast a w hcome.defers hcome.size hcome.grown (fun i hi => hcome.val i hi (hall i (by have := sh.le; omega))) (fun t ht => hcome.old t (fun i hi _ => ht i hi)) (fun hpm => by have h1 := hcome.inv; rw [hall b.p (by have := sh.le; omega), hall b.q (by have := sh.le; omega)] at h1; exact h1)
    rwa [show m = ops.size by have := sh.le; omega] at this
  | succ r ih =>
    intro l a w hr hl htail hcome
    by_cases hlagr : ∃ i, i ∈ lag ∧ i ∈ Region.ready .any ops l
    · obtain ⟨i, hil, hi⟩ := hlagr
      obtain ⟨hun, o, ho, hpre⟩ := mem_ready.1 hi
      have hlt : i < ops.size := (Array.getElem?_eq_some_iff.1 ho).1
      have him := sh.lagm i hil
      have hd : dstOf ops i = o.dst := by rw [dstOf, ho]; rfl
      have h := hpure i hil o ho a.eval (yielded ops a.tmps) w hcome.grown (fun _ => rfl) (fun _ => rfl) (fun _ => rfl) ?_ ?_
      · obtain ⟨x, hy, hs⟩ := h
        refine wpAny_first ho (Region.noSelect_spec sh.nosel) (fun c a w => hQ c a _ _ w) r l a w ?_ hi hy ?_
        · intro j oj hoj hne hjun hno
          rcases sh.lagf i hil o ho j oj hoj hne with h | h | h
          · obtain ⟨e, he, hb, rfl⟩ := waits_spec h
            have h1 := hpre e he hb
            have hjlt : e.on < ops.size := (Array.getElem?_eq_some_iff.1 hoj).1
            simp [hl, hjlt] at h1 hjun
            rw [h1] at hjun; simp at hjun
          · obtain ⟨e, he, hb, heq⟩ := waits_spec h
            exact absurd heq (hno e he hb)
          · exact h
        · refine ih _ _ _ ?_ (by simp [hl]) ?_ ?_
          · have := left_set (l := l) (i := i) (by omega) hun
            omega
          · intro j hj hjn
            simp only [Array.getD_eq_getD_getElem?, Array.getElem?_setIfInBounds]
            rw [if_neg (by omega)]
            have := htail j hj hjn
            simpa only [Array.getD_eq_getD_getElem?] using this
          · rw [← hd]
            exact hcome.step sh (S' := Sf i) (hS i) (fun _ _ _ h => h) him (by omega) hun hqm (Ex.refl _ _) hs (by
              have hp : i ≠ b.p := fun e => hlag.1 (e ▸ hil)
              have hq : i ≠ b.q := fun e => hlag.2 (e ▸ hil)
              simpa [hp, hq] using hcome.inv)
      · intro j hje
        obtain ⟨e, he, hje⟩ := Array.any_eq_true'.1 hje
        simp only [Bool.and_eq_true, beq_iff_eq] at hje
        obtain ⟨hb, rfl⟩ := hje
        have hj := sh.front i o ho e he hb
        obtain ⟨x, hx, hxd⟩ := hcome.val e.on (by omega) (hpre e he hb)
        refine ⟨x, hx, fun d hd => hxd d hd, fun hs => ?_⟩
        obtain ⟨d, hd⟩ := Option.isSome_iff_exists.1 hs
        have h1 := hxd d hd
        have hdlt : d < a.tmps.size := by rw [hcome.size]; exact sh.bound e.on d (by omega) hd
        unfold yielded
        rw [show (ops[e.on]?.bind fun x => x.dst) = some d from hd]
        simp only [Option.bind_some]
        rw [Array.getElem?_eq_getElem hdlt]
        have h2 : a.tmps[d] = x := by simpa [hdlt] using h1
        rw [h2]
        cases x <;> rfl
      · intro t ht
        simp only [List.all_eq_true, List.mem_range, bne_iff_ne] at ht
        exact hcome.old t (fun i hi _ => ht i hi)
    by_cases hall : ∀ j, j < m → l.getD j false = true
    · have hr' : m + (r + 1) = ops.size := by
        have hle := sh.le
        have hlist : l.toList = List.replicate m true ++ List.replicate (ops.size - m) false := by
          apply List.ext_getElem
          · simp [hl]; omega
          · intro j h1 h2
            have hj : j < ops.size := by simpa [hl] using h1
            rw [List.getElem_append]
            split
            · rename_i h
              have := hall j (by simpa using h)
              simpa [hl, hj] using this
            · rename_i h
              have := htail j (by simpa using h) hj
              simpa [hl, hj] using this
        unfold left at hr
        rw [hlist] at hr
        simp [List.count_replicate] at hr
        omega
      refine any_tail sh (r + 1) m l a w hr' (Nat.le_refl _) hl hall htail ?_
      exact hlast a w hcome.defers hcome.size hcome.grown (fun i hi => hcome.val i hi (hall i hi)) (fun t ht => hcome.old t (fun i hi _ => ht i hi)) (fun hpm => by have h1 := hcome.inv; rw [hall b.p hpm, hall b.q hqm] at h1; exact h1)
    · have hex : ∃ i, i < m ∧ l.getD i false = false ∧ ∀ j, j < i → l.getD j false = true := by
        have : ∃ i, i < m ∧ l.getD i false = false := by
          by_cases h : ∃ i, i < m ∧ l.getD i false = false
          · exact h
          · exfalso
            apply hall
            intro j hj
            cases hg : l.getD j false with
            | true => rfl
            | false => exact absurd ⟨j, hj, hg⟩ h
        obtain ⟨i, hi, hg⟩ := this
        induction i using Nat.strongRecOn with
        | _ i ih2 =>
          by_cases h : ∃ j, j < i ∧ l.getD j false = false
          · obtain ⟨j, hj, hg2⟩ := h
            exact ih2 j hj (by omega) hg2
          · refine ⟨i, hi, hg, fun j hj => ?_⟩
            cases hg2 : l.getD j false with
            | true => rfl
            | false => exact absurd ⟨j, hj, hg2⟩ h
      obtain ⟨i0, hi0, hg0, hlow⟩ := hex
      have hle := sh.le
      have hlt0 : i0 < ops.size := by omega
      have hun0 : l.getD i0 true = false := by simp [hl, hlt0] at hg0 ⊢; exact hg0
      refine ⟨fun hn => ?_, fun i hi => ?_⟩
      · have : i0 ∈ Region.ready .any ops l := mem_ready.2 ⟨hun0, _, Array.getElem?_eq_getElem hlt0, fun e he hb => hlow _ (sh.front i0 _ (Array.getElem?_eq_getElem hlt0) e he hb)⟩
        rw [hn] at this; simp at this
      · obtain ⟨hun, o, ho, hpre⟩ := mem_ready.1 hi
        have hlt : i < ops.size := (Array.getElem?_eq_some_iff.1 ho).1
        have him : i < m := by
          rcases Nat.lt_or_ge i m with h | h
          · exact h
          · rcases sh.tail i o h ho i0 (by omega) with hlg | ⟨e, he, hb, heq⟩ | ⟨hmi, _⟩
            · exact absurd ⟨i0, hlg, mem_ready.2 ⟨hun0, _, Array.getElem?_eq_getElem hlt0, fun e he hb => hlow _ (sh.front i0 _ (Array.getElem?_eq_getElem hlt0) e he hb)⟩⟩ hlagr
            · have := hpre e he hb
              rw [heq, hg0] at this; simp at this
            · omega
        have hil : i ∉ lag := fun h => hlagr ⟨i, h, hi⟩
        have hd : dstOf ops i = o.dst := by rw [dstOf, ho]; rfl
        refine wpOp_step ho (fun K hK => ?_)
        have hnext : ∀ x w', Ex (Sf i) w w' → spec i x w' → b.J (l.getD b.p false || decide (i = b.p)) (l.getD b.q false || decide (i = b.q)) (if i = b.q ∧ (dstOf ops i).isSome then x else (match dstOf ops b.q with | some d => a.tmps.getD d undef | none => undef)) w' → K (a.put o.dst x) w' := by
          intro x w' hx hs hJ
          refine hK _ _ (ih _ _ _ ?_ (by simp [hl]) ?_ ?_)
          · have := left_set (l := l) (i := i) (by omega) hun
            omega
          · intro j hj hjn
            simp only [Array.getD_eq_getD_getElem?, Array.getElem?_setIfInBounds]
            rw [if_neg (by omega)]
            have := htail j hj hjn
            simpa only [Array.getD_eq_getD_getElem?] using this
          · rw [← hd]
            exact hcome.step sh (hS i) (fun j x hj h => hst i j x w w' hj h hx) him (by omega) hun hqm hx hs hJ
        have hun' : l.getD i false = false := by simp [hl, hlt] at hun ⊢; exact hun
        have h := hstep i him hil o ho a.eval (yielded ops a.tmps) w hcome.grown (fun _ => rfl) (fun _ => rfl) (fun _ => rfl) ?_ ?_ _ _ _ hcome.inv (fun e => e ▸ hun') (fun e => e ▸ hun')
        · split at h
          · rename_i hw
            rw [if_pos hw]
            rcases h with ⟨x, w', hrun, hx, hs, hJ⟩ | ⟨f, args, hrun, hcall⟩
            · unfold Oper.wp
              rw [hrun]
              exact hnext x w' hx hs hJ
            · unfold Oper.wp
              rw [hrun]
              refine hcall.mono ?_
              rintro e w' ⟨x, rfl, hx, hs, hJ⟩
              exact hnext x w' hx hs hJ
          · rename_i hw
            rw [if_neg hw]
            exact hnext undef w (Ex.refl _ _) h.1 h.2
        · intro j hje
          obtain ⟨e, he, hje⟩ := Array.any_eq_true'.1 hje
          simp only [Bool.and_eq_true, beq_iff_eq] at hje
          obtain ⟨hb, rfl⟩ := hje
          have hj := sh.front i o ho e he hb
          obtain ⟨x, hx, hxd⟩ := hcome.val e.on (by omega) (hpre e he hb)
          refine ⟨x, hx, fun d hd => hxd d hd, fun hs => ?_⟩
          obtain ⟨d, hd⟩ := Option.isSome_iff_exists.1 hs
          have h1 := hxd d hd
          have hdlt : d < a.tmps.size := by rw [hcome.size]; exact sh.bound e.on d (by omega) hd
          unfold yielded
          rw [show (ops[e.on]?.bind fun x => x.dst) = some d from hd]
          simp only [Option.bind_some]
          rw [Array.getElem?_eq_getElem hdlt]
          have h2 : a.tmps[d] = x := by simpa [hdlt] using h1
          rw [h2]
          cases x <;> rfl
        · intro t ht
          simp only [List.all_eq_true, List.mem_range, bne_iff_ne] at ht
          exact hcome.old t (fun i hi _ => ht i hi)
theorem specs_any {base : Array Value} {ds : List Deferred} {w : World} (m : Nat) (lag : List Nat) (spec : Nat → Value → World → Prop) (b : Both) (hqm : b.q < m) (hlag : b.p ∉ lag ∧ b.q ∉ lag) (hm : P.follows .mixedOrders = true) (sh : shapeB ops m base.size lag = true)
    (S : Nat → Prop) (Sf : Nat → Nat → Prop) (hS : ∀ i b, Sf i b → S b) (hst : ∀ i j x w w', j ≠ i → spec j x w → Ex (Sf i) w w' → spec j x w') (hstep : ∀ i, i < m → i ∉ lag → StepOkJ P ops base m b S Sf spec w.drew i) (hpure : ∀ i, i ∈ lag → PureOk P ops base m S spec w.drew i) (hJ0 : b.J false false (match dstOf ops b.q with | some d => base.getD d undef | none => undef) w.drew)
    (hlast : ∀ (a : Act) (w' : World), a.defers = ds → a.tmps.size = base.size → Ex S w.drew w' → (∀ i, i < m → ∃ x, spec i x w' ∧ ∀ d, dstOf ops i = some d → a.tmps.getD d undef = x) → (∀ t, (∀ i, i < m → dstOf ops i ≠ some t) → a.tmps.getD t undef = base.getD t undef) → (b.p < m → b.J true true (match dstOf ops b.q with | some d => a.tmps.getD d undef | none => undef) w') → ∀ K : Exit → Act → World → Prop, (∀ a w, Q .normal a w → K .normal a w) → wpList P ops K (ops.toList.drop m) a w') :
    wpAny P .any ops (NoPanic Q) ops.size (Array.replicate ops.size false) { tmps := base, defers := ds } w.drew := by
  have hz : ∀ j (b : Bool), (Array.replicate ops.size false).getD j b = if j < ops.size then false else b := by
    intro j b
    simp only [Array.getD_eq_getD_getElem?, Array.getElem?_replicate]
    split <;> rfl
  refine any_front (Q := NoPanic Q) (W := w.drew) hqm hlag (shape_of sh) hS hst hstep hpure (fun _ _ _ _ _ h => h) (fun a w' h1 h2 h3 h4 h5 h6 => hlast a w' h1 h2 h3 h4 h5 h6 _ (fun _ _ h => h)) ops.size _ _ _ ?_ (by simp) (fun j _ hj => by rw [hz, if_pos hj]) ⟨rfl, rfl, Ex.refl _ _, fun i hi hl => ?_, fun _ _ => rfl, by rw [hz, hz]; simpa using hJ0⟩
  · simp [left, List.count_replicate]
  · rw [hz] at hl
    split at hl <;> simp at hl
def putSlots (ops : Array Oper) (base : Array Value) (xs : Nat → Value) : Nat → Array Value
  | 0 => base
  | i + 1 => match dstOf ops i with
    | some d => (putSlots ops base xs i).setIfInBounds d (xs i)
    | none => putSlots ops base xs i
theorem putSlots_size (ops : Array Oper) (base : Array Value) (xs : Nat → Value) : ∀ i, (putSlots ops base xs i).size = base.size
  | 0 => rfl
  | i + 1 => by
    simp only [putSlots]
    cases dstOf ops i with
    | none => exact putSlots_size ops base xs i
    | some d => simp [putSlots_size ops base xs i]
theorem putSlots_old {base : Array Value} {xs : Nat → Value} {t : Tmp} : ∀ i, (∀ j, j < i → dstOf ops j ≠ some t) → (putSlots ops base xs i).getD t undef = base.getD t undef
  | 0, _ => rfl
  | i + 1, h => by
    have ih := putSlots_old (base := base) (xs := xs) i (fun j hj => h j (by omega))
    simp only [putSlots]
    cases hd : dstOf ops i with
    | none => exact ih
    | some d =>
      have hne : d ≠ t := fun e => h i (by omega) (e ▸ hd)
      simp only [Array.getD_eq_getD_getElem?, Array.getElem?_setIfInBounds] at ih ⊢
      rw [if_neg hne]; exact ih
theorem putSlots_val {lag : List Nat} {m size : Nat} (sh : Shape ops m size lag) {base : Array Value} (hs : base.size = size) {xs : Nat → Value} : ∀ k, k ≤ m → ∀ i d, i < k → dstOf ops i = some d → (putSlots ops base xs k).getD d undef = xs i
  | 0, _, i, d, hi, _ => by omega
  | k + 1, hk, i, d, hi, hd => by
    simp only [putSlots]
    by_cases e : i = k
    · subst e
      rw [hd]
      have := sh.bound i d (by omega) hd
      simp [Array.getElem?_setIfInBounds, putSlots_size, hs, this]
    · have ih := putSlots_val sh hs (xs := xs) k (by omega) i d (by omega) hd
      cases hdk : dstOf ops k with
      | none => exact ih
      | some d' =>
        have hne : d' ≠ d := fun e2 => sh.apart i k d (by omega) (by omega) e hd (e2 ▸ hdk)
        simp only [Array.getD_eq_getD_getElem?, Array.getElem?_setIfInBounds] at ih ⊢
        rw [if_neg hne]; exact ih
theorem byJ_any {base : Array Value} {ds : List Deferred} {w : World} (m : Nat) (lag : List Nat) (spec : Nat → Value → World → Prop) (b : Both) (hqm : b.q < m) (hlag : b.p ∉ lag ∧ b.q ∉ lag) (hm : P.follows .mixedOrders = true) (sh : shapeB ops m base.size lag = true)
    (S : Nat → Prop) (Sf : Nat → Nat → Prop) (hS : ∀ i b, Sf i b → S b) (hst : ∀ i j x w w', j ≠ i → spec j x w → Ex (Sf i) w w' → spec j x w') (hstep : ∀ i, i < m → i ∉ lag → StepOkJ P ops base m b S Sf spec w.drew i) (hpure : ∀ i, i ∈ lag → PureOk P ops base m S spec w.drew i) (hJ0 : b.J false false (match dstOf ops b.q with | some d => base.getD d undef | none => undef) w.drew)
    (hlast : ∀ (xs : Nat → Value) (w' : World), Ex S w w' → (∀ i, i < m → spec i (xs i) w') → (b.p < m → b.J true true (if (dstOf ops b.q).isSome then xs b.q else undef) w') → ∀ K : Exit → Act → World → Prop, (∀ a w, Q .normal a w → K .normal a w) → wpList P ops K (ops.toList.drop m) { tmps := putSlots ops base xs m, defers := ds } w') :
    wpAny P .any ops (NoPanic Q) ops.size (Array.replicate ops.size false) { tmps := base, defers := ds } w.drew := by
  have sh' := shape_of sh
  refine specs_any m lag spec b hqm hlag hm sh S Sf hS hst hstep hpure hJ0 (fun a w' hd hs hx hv ho hJ K hK => ?_)
  have hxs : ∃ xs : Nat → Value, ∀ i, i < m → spec i (xs i) w' ∧ ∀ d, dstOf ops i = some d → a.tmps.getD d undef = xs i := by
    refine ⟨fun i => if h : i < m then (hv i h).choose else undef, fun i hi => ?_⟩
    simp only [dif_pos hi]
    exact (hv i hi).choose_spec
  obtain ⟨xs, hxs⟩ := hxs
  have ha : a = { tmps := putSlots ops base xs m, defers := ds } := by
    obtain ⟨tm, df⟩ := a
    simp only at hd hs
    subst hd
    congr 1
    apply Array.ext
    · rw [hs, putSlots_size]
    · intro t h1 h2
      have key : tm.getD t undef = (putSlots ops base xs m).getD t undef := by
        by_cases h : ∃ i, i < m ∧ dstOf ops i = some t
        · obtain ⟨i, hi, hdi⟩ := h
          rw [putSlots_val sh' rfl m (Nat.le_refl _) i t hi hdi]
          exact (hxs i hi).2 t hdi
        · rw [putSlots_old m (fun j hj e => h ⟨j, hj, e⟩)]
          exact ho t (fun i hi e => h ⟨i, hi, e⟩)
      simpa [h1, h2] using key
  rw [ha]
  exact hlast xs w' (((Ex.refl _ _).drew).trans hx (fun _ h => .inl h)) (fun i hi => (hxs i hi).1) (fun hp => by
    have h1 := hJ hp
    cases hdq : dstOf ops b.q with
    | none => simpa [hdq] using h1
    | some d =>
      rw [hdq] at h1
      simp only [Option.isSome_some, if_true]
      have h2 := putSlots_val sh' rfl (xs := xs) m (Nat.le_refl _) b.q d hqm hdq
      rw [ha] at h1
      simp only [h2] at h1
      exact h1) K hK
theorem region_byJ {id : Nat} {base : Array Value} {ds : List Deferred} {w : World} (m : Nat) (lag : List Nat) (spec : Nat → Value → World → Prop) (b : Both) (hqm : b.q < m) (hlag : b.p ∉ lag ∧ b.q ∉ lag) (hm : P.follows .mixedOrders = true) (sh : shapeB ops m base.size lag = true)
    (S : Nat → Prop) (Sf : Nat → Nat → Prop) (hS : ∀ i b, Sf i b → S b) (hst : ∀ i j x w w', j ≠ i → spec j x w → Ex (Sf i) w w' → spec j x w') (hstep : ∀ i, i < m → i ∉ lag → StepOkJ P ops base m b S Sf spec w.drew i) (hpure : ∀ i, i ∈ lag → PureOk P ops base m S spec w.drew i) (hJ0 : b.J false false (match dstOf ops b.q with | some d => base.getD d undef | none => undef) w.drew)
    (hlast : ∀ (xs : Nat → Value) (w' : World), Ex S w w' → (∀ i, i < m → spec i (xs i) w') → (b.p < m → b.J true true (if (dstOf ops b.q).isSome then xs b.q else undef) w') → ∀ K : Exit → Act → World → Prop, (∀ a w, Q .normal a w → K .normal a w) → wpList P ops K (ops.toList.drop m) { tmps := putSlots ops base xs m, defers := ds } w') :
    (Code.region id ops true).wp P Q { tmps := base, defers := ds } w :=
  wp_region_noPanic (wp_region_any hm (byJ_any m lag spec b hqm hlag hm sh S Sf hS hst hstep hpure hJ0 hlast))
theorem region_byS {id : Nat} {base : Array Value} {ds : List Deferred} {w : World} (m : Nat) (lag : List Nat) (spec : Nat → Value → World → Prop) (hm0 : 0 < m) (hl0 : 0 ∉ lag) (hm : P.follows .mixedOrders = true) (sh : shapeB ops m base.size lag = true)
    (S : Nat → Prop) (Sf : Nat → Nat → Prop) (hS : ∀ i b, Sf i b → S b) (hst : ∀ i j x w w', j ≠ i → spec j x w → Ex (Sf i) w w' → spec j x w') (hstep : ∀ i, i < m → i ∉ lag → StepOk P ops base m S Sf spec w.drew i) (hpure : ∀ i, i ∈ lag → PureOk P ops base m S spec w.drew i)
    (hlast : ∀ (xs : Nat → Value) (w' : World), Ex S w w' → (∀ i, i < m → spec i (xs i) w') → ∀ K : Exit → Act → World → Prop, (∀ a w, Q .normal a w → K .normal a w) → wpList P ops K (ops.toList.drop m) { tmps := putSlots ops base xs m, defers := ds } w') :
    (Code.region id ops true).wp P Q { tmps := base, defers := ds } w := by
  refine region_byJ m lag spec ⟨0, 0, fun _ _ _ _ => True⟩ hm0 ⟨hl0, hl0⟩ hm sh S Sf hS hst (fun i hi hnl => ?_) hpure trivial (fun xs w' hx hs _ => hlast xs w' hx hs)
  intro o ho ρ yl w1 hx h1 h2 h3 h4 h5 bp bq jv _ _ _
  have h := hstep i hi hnl o ho ρ yl w1 hx h1 h2 h3 h4 h5
  split at h
  · rename_i hw
    rw [if_pos hw]
    rcases h with ⟨x, w', a, b, c⟩ | ⟨f, args, a, b⟩
    · exact .inl ⟨x, w', a, b, c, trivial⟩
    · refine .inr ⟨f, args, a, b.mono ?_⟩
      rintro e w' ⟨x, a, b, c⟩
      exact ⟨x, a, b, c, trivial⟩
  · rename_i hw
    rw [if_neg hw]
    exact ⟨h, trivial⟩
theorem region_by {id : Nat} {base : Array Value} {ds : List Deferred} {w : World} (m : Nat) (lag : List Nat) (spec : Nat → Value → World → Prop) (hm0 : 0 < m) (hl0 : 0 ∉ lag) (hm : P.follows .mixedOrders = true) (sh : shapeB ops m base.size lag = true)
    (hst : ∀ i x w w', spec i x w → Ex (fun _ => False) w w' → spec i x w') (hstep : ∀ i, i < m → i ∉ lag → StepOk P ops base m (fun _ => False) (fun _ _ => False) spec w.drew i) (hpure : ∀ i, i ∈ lag → PureOk P ops base m (fun _ => False) spec w.drew i)
    (hlast : ∀ (xs : Nat → Value) (w' : World), Ex (fun _ => False) w w' → (∀ i, i < m → spec i (xs i) w') → ∀ K : Exit → Act → World → Prop, (∀ a w, Q .normal a w → K .normal a w) → wpList P ops K (ops.toList.drop m) { tmps := putSlots ops base xs m, defers := ds } w') :
    (Code.region id ops true).wp P Q { tmps := base, defers := ds } w :=
  region_byS m lag spec hm0 hl0 hm sh (fun _ => False) (fun _ _ => False) (fun _ _ h => h) (fun i j x w w' _ h hx => hst j x w w' h hx) hstep hpure hlast
def specL (L : List (Value → World → Prop)) (i : Nat) (x : Value) (w : World) : Prop := (L.getD i (fun _ _ => True)) x w
def Stab (p : Value → World → Prop) : Prop := ∀ x w w', p x w → Ex (fun _ => False) w w' → p x w'
theorem stab_all {L : List (Value → World → Prop)} (h : ∀ p ∈ L, Stab p) : ∀ i x w w', specL L i x w → Ex (fun _ => False) w w' → specL L i x w' := by
  intro i x w w' hs hx
  unfold specL at hs ⊢
  rw [List.getD_eq_getElem?_getD] at hs ⊢
  by_cases hi : i < L.length
  · rw [List.getElem?_eq_getElem hi] at hs ⊢
    exact h _ (List.getElem_mem hi) _ _ _ hs hx
  · rw [List.getElem?_eq_none (by omega)]; trivial
theorem stab_nil : ∀ p ∈ ([] : List (Value → World → Prop)), Stab p := by simp
theorem stab_cons {p : Value → World → Prop} {L : List (Value → World → Prop)} (h : Stab p) (k : ∀ q ∈ L, Stab q) : ∀ q ∈ p :: L, Stab q := by
  intro q hq
  rcases List.mem_cons.1 hq with rfl | hq
  · exact h
  · exact k q hq
def Is (v : Value) : Value → World → Prop := fun x _ => x = v
theorem stab_is (v : Value) : Stab (Is v) := fun _ _ _ h _ => h
def only (c : Nat) (S : Nat → Prop) (i : Nat) (b : Nat) : Prop := i = c ∧ S b
theorem only_no {c i : Nat} {S : Nat → Prop} (h : i ≠ c) {w w' : World} (hx : Ex (only c S i) w w') : Ex (fun _ => False) w w' := hx.mono (fun _ hb => h hb.1)
theorem ex_only {c i : Nat} {S : Nat → Prop} {w w' : World} (hx : Ex (fun _ => False) w w') : Ex (only c S i) w w' := hx.mono (fun _ h => h.elim)
theorem ex_the {c : Nat} {S : Nat → Prop} {w w' : World} (hx : Ex S w w') : Ex (only c S c) w w' := hx.mono (fun _ h => ⟨rfl, h⟩)
def StabS (S : Nat → Prop) (p : Value → World → Prop) : Prop := ∀ x w w', p x w → Ex S w w' → p x w'
theorem stabS_is (S : Nat → Prop) (v : Value) : StabS S (Is v) := fun _ _ _ h _ => h
theorem stabS_all {L : List (Value → World → Prop)} {S : Nat → Prop} (c : Nat) (h : ∀ p ∈ L, Stab p) (k : ∀ i p, i ≠ c → L[i]? = some p → StabS S p) : ∀ i j x w w', j ≠ i → specL L j x w → Ex (only c S i) w w' → specL L j x w' := by
  intro i j x w w' hne hs hx
  by_cases hi : i = c
  · subst hi
    unfold specL at hs ⊢
    rw [List.getD_eq_getElem?_getD] at hs ⊢
    cases hl : L[j]? with
    | none => trivial
    | some p =>
      rw [hl] at hs
      exact k j p hne hl _ _ _ hs (hx.mono (fun _ hb => hb.2))
  · exact stab_all h j x w w' hs (only_no hi hx)
theorem stabS_nil (S : Nat → Prop) (c n : Nat) : ∀ i p, i + n ≠ c → ([] : List (Value → World → Prop))[i]? = some p → StabS S p := by simp
theorem stabS_cons {S : Nat → Prop} {c n : Nat} {p : Value → World → Prop} {L : List (Value → World → Prop)} (h : n ≠ c → StabS S p) (k : ∀ i q, i + (n + 1) ≠ c → L[i]? = some q → StabS S q) : ∀ i q, i + n ≠ c → (p :: L)[i]? = some q → StabS S q := by
  intro i q hne hq
  cases i with
  | zero => simp at hq; subst hq; exact h (by omega)
  | succ i => exact k i q (by omega) (by simpa using hq)
theorem stabS_start {L : List (Value → World → Prop)} {S : Nat → Prop} {c : Nat} (h : ∀ i p, i + 0 ≠ c → L[i]? = some p → StabS S p) : ∀ i p, i ≠ c → L[i]? = some p → StabS S p := h
theorem wantL {c : Bool} {A B C : Prop} (h : c = true) (a : A) : if c = true then A ∨ B else C := by rw [if_pos h]; exact .inl a
theorem wantR {c : Bool} {A B C : Prop} (h : c = true) (a : B) : if c = true then A ∨ B else C := by rw [if_pos h]; exact .inr a
theorem unwant {c : Bool} {A B C : Prop} (h : c = false) (a : C) : if c = true then A ∨ B else C := by rw [h, if_neg (by decide)]; exact a
end
end Go.Proofs.Ythkemcekcfccpaa.GBrandCompares
end
section
namespace Go.Proofs.Ythkemcekcfccpaa.PBrandCompares
open Go.RowKit Go.Proofs.YthkemcekcfccpaaW.PrintWords Go.Proofs.YthkemcekcfccpaaW.PrintLast Go.Proofs.YthkemcekcfccpaaW.PrintMore
open Go.Proofs.Ythkemcekcfccpaa.GBrandCompares
set_option linter.unusedVariables false
set_option linter.unusedSimpArgs false
structure Pr where
  k : S27
  v : S27
  A : Option Addr
  c : Nat
  B : Option Addr
  d : Nat
def Pr.cells (p : Pr) : List Value := [.int .u8 p.k.f0, .int .i64 p.k.f1, .string p.k.f2, .slice p.A p.k.f3.length p.c, .int .i64 p.k.f4, .int .u8 p.v.f0, .int .i64 p.v.f1, .string p.v.f2, .slice p.B p.v.f3.length p.d, .int .i64 p.v.f4]
structure Pr.Good (w : World) (ok : Nat → Prop) (p : Pr) : Prop where
  lk : p.k.f3.length ≤ p.c
  lv : p.v.f3.length ≤ p.d
  fk : Kd.F k27 w ok p.A p.k.f3.length p.k.f3
  fv : Kd.F k27 w ok p.B p.v.f3.length p.v.f3
  sk : Lens p.k
theorem Pr.Good.ex {S ok : Nat → Prop} {w w1 : World} {p : Pr} (h : p.Good w ok) (hx : Ex S w w1) (hs : ∀ b, ok b → ¬ S b) : p.Good w1 ok := ⟨h.lk, h.lv, ex_F hx h.fk hs, ex_F hx h.fv hs, h.sk⟩
structure RT (w : World) (base : Nat) (ok : Nat → Prop) (h : Nat) (u : Value) (l : List Pr) : Prop where
  hh : w.heap[h]? = some (.cells #[u] 55 (0, 0))
  own : w.ownsRow base 88 10 u l.length (l.flatMap Pr.cells)
  good : ∀ p ∈ l, p.Good w ok
  ne : some h ≠ u.ownBlock
theorem flat_len (l : List Pr) : (l.flatMap Pr.cells).length = l.length * 10 := by
  induction l with
  | nil => rfl
  | cons a l ih => rw [List.flatMap_cons, List.length_append, ih, List.length_cons]; simp [Pr.cells]; omega
theorem flat_get (l : List Pr) : ∀ k p j, l[k]? = some p → j < 10 → (l.flatMap Pr.cells)[k * 10 + j]? = p.cells[j]? := by
  induction l with
  | nil => intro k p j h; simp at h
  | cons a l ih =>
    intro k p j h hj
    rw [List.flatMap_cons]
    cases k with
    | zero =>
      simp at h
      subst h
      rw [List.getElem?_append_left (by simp [Pr.cells]; omega)]
      simp
    | succ k =>
      rw [List.getElem?_append_right (by simp [Pr.cells]; omega)]
      have := ih k p j (by simpa using h) hj
      rw [← this]
      congr 1
      simp [Pr.cells]
      omega
theorem own_pairs {w : World} {base : Nat} {u : Value} {l : List Pr} (h : w.ownsRow base 88 10 u l.length (l.flatMap Pr.cells)) :
    ∃ M c, u = .slice M l.length c ∧ l.length ≤ c ∧ ∀ k p, l[k]? = some p → ∃ g cs, M = some ⟨g, 0, none⟩ ∧ u.ownBlock = some g ∧ base ≤ g ∧ w.heap[g]? = some (.cells cs 88 (0, 0)) ∧ l.length * 10 ≤ cs.size ∧ ∀ j u, p.cells[j]? = some u → w.cell? ⟨g, k * 10 + j, none⟩ = some u := by
  rcases h.2 with ⟨rfl, h0⟩ | ⟨g, cap, cur, rfl, hb, hg, hn, hm, hcs, hct⟩
  · refine ⟨none, 0, by rw [h0], by omega, fun k p hk => ?_⟩
    have := (List.getElem?_eq_some_iff.1 hk).1
    omega
  · have hsz : l.length * 10 ≤ cur.size := by rw [hcs]; exact Nat.mul_le_mul_right _ hn
    refine ⟨some ⟨g, 0, none⟩, cap, rfl, hn, fun k p hk => ⟨g, cur, rfl, rfl, hb, hg, hsz, fun j u hj => ?_⟩⟩
    have hkl := (List.getElem?_eq_some_iff.1 hk).1
    have hj5 : j < 10 := by have := (List.getElem?_eq_some_iff.1 hj).1; simpa [Pr.cells] using this
    rw [blk_cell hg (k * 10 + j)]
    have h1 := flat_get l k p j hk hj5
    rw [← hct, List.getElem?_take, if_pos (by omega)] at h1
    simpa [hj] using h1
theorem RT.ex {S ok : Nat → Prop} {w w1 : World} {base h : Nat} {u : Value} {l : List Pr} (hr : RT w base ok h u l) (hx : Ex S w w1) (h1 : ¬ S h) (h2 : ∀ b, S b → some b ≠ u.ownBlock) (h3 : ∀ b, ok b → ¬ S b) : RT w1 base ok h u l :=
  ⟨hx.blk hr.hh h1, mine_ex hr.own hx h2, fun p hp => (hr.good p hp).ex hx h3, hr.ne⟩
theorem RT.ex0 {ok : Nat → Prop} {w w1 : World} {base h : Nat} {u : Value} {l : List Pr} (hr : RT w base ok h u l) (hx : Ex (fun _ => False) w w1) : RT w1 base ok h u l :=
  hr.ex hx (fun h => h) (fun _ h => h.elim) (fun _ _ h => h)
noncomputable def posP (l : List Pr) (x : S27) : Int := match l.findIdx? (fun p => eqS p.k x) with | some i => (i : Int) | none => -1
theorem posP_at {l : List Pr} {x : S27} {i : Nat} {p : Pr} (hp : l[i]? = some p) (he : eqS p.k x = true) (hn : ∀ (j : Nat) (q : Pr), j < i → l[j]? = some q → eqS q.k x = false) : posP l x = (i : Int) := by
  have : l.findIdx? (fun p => eqS p.k x) = some i := by
    rw [List.findIdx?_eq_some_iff_getElem]
    obtain ⟨h1, h2⟩ := List.getElem?_eq_some_iff.1 hp
    exact ⟨h1, by rw [h2]; exact he, fun j hj => by rw [hn j _ hj (List.getElem?_eq_getElem (by omega))]; simp⟩
  unfold posP
  rw [this]
theorem posP_none {l : List Pr} {x : S27} (hn : ∀ (j : Nat) (q : Pr), l[j]? = some q → eqS q.k x = false) : posP l x = -1 := by
  have : l.findIdx? (fun p => eqS p.k x) = none := by
    rw [List.findIdx?_eq_none_iff]
    intro q hq
    obtain ⟨j, hj⟩ := List.getElem?_of_mem hq
    exact hn j q hj
  unfold posP
  rw [this]
set_option maxHeartbeats 2000000 in
set_option maxRecDepth 100000 in
theorem at_calls {ok okx : Nat → Prop} {base h : Nat} {u : Value} {l : List Pr} (x : S27) (A : Option Addr) (c : Nat) (w : World) (hr : RT w base ok h u l) (hl : l.length < 1000000) (hc : x.f3.length ≤ c) (hF : Kd.F k27 w okx A x.f3.length x.f3) :
    Calls Try.prog 54 #[.pointer (some ⟨h, 0, none⟩), .agg #[.int .u8 x.f0, .int .i64 x.f1, .string x.f2, .slice A x.f3.length c, .int .i64 x.f4]] w fun e w' => e = .returned (.int .i64 (posP l x)) ∧ Ex (fun _ => False) w w' := by
  obtain ⟨M, cm, hu, hcm, hcells⟩ := own_pairs hr.own
  subst hu
  have HR := Aside0.mk hr
  have HF := Aside0.mk hF
  have HC := Aside0.mk hc
  have HCE := Aside0.mk hcells
  have HX0 := Aside0.mk ((Ex.refl (fun _ => False) w).alloc (.cells #[.int .u8 x.f0, .int .i64 x.f1, .string x.f2, .slice A x.f3.length c, .int .i64 x.f4] 27))
  have HB0 := Aside0.mk (blk_new1 w (.cells #[.int .u8 x.f0, .int .i64 x.f1, .string x.f2, .slice A x.f3.length c, .int .i64 x.f4] 27))
  clear hr hF hc hcells
  go_enter Try.func54, Try.ntmps54
  go_wp2_with fail
  go_loopg [5] l.length (fun m v5 wr => ∃ i : Nat, v5 = .int .i64 i ∧ Aside0 (i + m = l.length) ∧ Aside0 (∀ (j : Nat) (p : Pr), j < i → l[j]? = some p → eqS p.k x = false) ∧ Aside0 (wr.heap[w.heap.size]? = some (.cells #[.int .u8 x.f0, .int .i64 x.f1, .string x.f2, .slice A x.f3.length c, .int .i64 x.f4] 27)) ∧ Aside0 (Ex (fun _ => False) w wr))
  case atStart => exact ⟨0, rfl, ⟨by omega⟩, ⟨fun j p h => by omega⟩, HB0, HX0⟩
  case round =>
    obtain ⟨i, rfl, HM, HN, HB, HX⟩ := hrel
    have hh := HX.out.blk HR.out.hh (fun h => h)
    have c0 := (blk_cell hh 0).trans rfl
    have hhl := lt_of_blk hh
    by_cases hi : i < l.length
    · obtain ⟨p, hp⟩ : ∃ p, l[i]? = some p := ⟨_, List.getElem?_eq_getElem hi⟩
      obtain ⟨g, cs, hM, _, _, hcs, hsz, hpc⟩ := HCE.out i p hp
      subst hM
      have hii : (i : Int) < (l.length : Int) := by omega
      have hi0 : (0 : Int) ≤ (i : Int) := by omega
      have hi100 : i < 1000000 := by omega
      have HPC := Aside0.mk hpc
      have HCS := Aside0.mk hcs
      have HG := Aside0.mk ((HR.out.good p (List.mem_of_getElem? hp)).ex HX.out (fun _ _ h => h))
      have HP := Aside0.mk hp
      have HH := Aside0.mk hh
      clear hpc hcs hp hh
      go_upto_region 4 with (fail)
      clear c0 hhl
      refine region_by 10 [] (specL [Is (.pointer (some ⟨h, 0, none⟩)), Is (.pointer (some ⟨h, 0, none⟩)), Is (.pointer (some ⟨h, 0, none⟩)), Is (.slice (some ⟨g, 0, none⟩) l.length cm), Is (.int .i64 i), Is (.pointer (some ⟨g, i * 10, none⟩)), Is (.pointer (some ⟨g, i * 10, none⟩)), Is (.agg #[.int .u8 p.k.f0, .int .i64 p.k.f1, .string p.k.f2, .slice p.A p.k.f3.length p.c, .int .i64 p.k.f4]), Is (.agg #[.int .u8 x.f0, .int .i64 x.f1, .string x.f2, .slice A x.f3.length c, .int .i64 x.f4]), Is (.bool (eqS p.k x))]) (by decide) (by decide) (by kernel_rfl) (by kernel_rfl) (stab_all (stab_cons (stab_is _) (stab_cons (stab_is _) (stab_cons (stab_is _) (stab_cons (stab_is _) (stab_cons (stab_is _) (stab_cons (stab_is _) (stab_cons (stab_is _) (stab_cons (stab_is _) (stab_cons (stab_is _) (stab_cons (stab_is _) (stab_nil)))))))))))) ?_ ?_ ?_
      · intro i hi hnl
        obtain rfl | rfl | rfl | rfl | rfl | rfl | rfl | rfl | rfl | rfl : i = 0 ∨ i = 1 ∨ i = 2 ∨ i = 3 ∨ i = 4 ∨ i = 5 ∨ i = 6 ∨ i = 7 ∨ i = 8 ∨ i = 9 := by omega
        · intro o ho ρ yl w1 hx hc hf hgl hp hb
          simp only [List.getElem?_toArray, List.getElem?_cons_succ, List.getElem?_cons_zero, Option.some.injEq] at ho
          subst ho
          have hx := ((Ex.refl (fun _ => False) wr).drew).trans hx (fun _ h => h.elim)
          have b0 := hb 0 (by kernel_rfl)
          clear hp hb
          refine wantL rfl ⟨.pointer (some ⟨h, 0, none⟩), w1, ?_, Ex.refl _ _, rfl⟩
          go_simp
        · intro o ho ρ yl w1 hx hc hf hgl hp hb
          simp only [List.getElem?_toArray, List.getElem?_cons_succ, List.getElem?_cons_zero, Option.some.injEq] at ho
          subst ho
          have hx := ((Ex.refl (fun _ => False) wr).drew).trans hx (fun _ h => h.elim)
          obtain ⟨v0, s0, e0, y0⟩ := hp 0 (by kernel_rfl)
          have e0 := e0 15 rfl
          obtain rfl : v0 = (.pointer (some ⟨h, 0, none⟩)) := s0
          clear y0
          clear hp hb
          have hh := hx.blk HH.out (fun h => h)
          have c0 := (blk_cell hh 0).trans rfl
          have hhl := lt_of_blk hh
          refine wantL rfl ⟨.pointer (some ⟨h, 0, none⟩), w1, ?_, Ex.refl _ _, rfl⟩
          go_simp
        · intro o ho ρ yl w1 hx hc hf hgl hp hb
          simp only [List.getElem?_toArray, List.getElem?_cons_succ, List.getElem?_cons_zero, Option.some.injEq] at ho
          subst ho
          have hx := ((Ex.refl (fun _ => False) wr).drew).trans hx (fun _ h => h.elim)
          obtain ⟨v1, s1, e1, y1⟩ := hp 1 (by kernel_rfl)
          have e1 := e1 16 rfl
          obtain rfl : v1 = (.pointer (some ⟨h, 0, none⟩)) := s1
          clear y1
          clear hp hb
          have hh := hx.blk HH.out (fun h => h)
          have c0 := (blk_cell hh 0).trans rfl
          have hhl := lt_of_blk hh
          refine wantL rfl ⟨.pointer (some ⟨h, 0, none⟩), w1, ?_, Ex.refl _ _, rfl⟩
          go_simp
        · intro o ho ρ yl w1 hx hc hf hgl hp hb
          simp only [List.getElem?_toArray, List.getElem?_cons_succ, List.getElem?_cons_zero, Option.some.injEq] at ho
          subst ho
          have hx := ((Ex.refl (fun _ => False) wr).drew).trans hx (fun _ h => h.elim)
          obtain ⟨v2, s2, e2, y2⟩ := hp 2 (by kernel_rfl)
          have e2 := e2 17 rfl
          obtain rfl : v2 = (.pointer (some ⟨h, 0, none⟩)) := s2
          clear y2
          clear hp hb
          have hh := hx.blk HH.out (fun h => h)
          have c0 := (blk_cell hh 0).trans rfl
          have hhl := lt_of_blk hh
          refine wantL rfl ⟨.slice (some ⟨g, 0, none⟩) l.length cm, w1, ?_, Ex.refl _ _, rfl⟩
          go_simp
        · intro o ho ρ yl w1 hx hc hf hgl hp hb
          simp only [List.getElem?_toArray, List.getElem?_cons_succ, List.getElem?_cons_zero, Option.some.injEq] at ho
          subst ho
          have hx := ((Ex.refl (fun _ => False) wr).drew).trans hx (fun _ h => h.elim)
          have b5 := hb 5 (by kernel_rfl)
          clear hp hb
          refine wantL rfl ⟨.int .i64 i, w1, ?_, Ex.refl _ _, rfl⟩
          go_simp
        · intro o ho ρ yl w1 hx hc hf hgl hp hb
          simp only [List.getElem?_toArray, List.getElem?_cons_succ, List.getElem?_cons_zero, Option.some.injEq] at ho
          subst ho
          have hx := ((Ex.refl (fun _ => False) wr).drew).trans hx (fun _ h => h.elim)
          obtain ⟨v3, s3, e3, y3⟩ := hp 3 (by kernel_rfl)
          have e3 := e3 18 rfl
          obtain rfl : v3 = (.slice (some ⟨g, 0, none⟩) l.length cm) := s3
          clear y3
          obtain ⟨v4, s4, e4, y4⟩ := hp 4 (by kernel_rfl)
          have e4 := e4 19 rfl
          obtain rfl : v4 = (.int .i64 i) := s4
          clear y4
          clear hp hb
          refine wantL rfl ⟨.pointer (some ⟨g, i * 10, none⟩), w1, ?_, Ex.refl _ _, rfl⟩
          go_simp
        · intro o ho ρ yl w1 hx hc hf hgl hp hb
          simp only [List.getElem?_toArray, List.getElem?_cons_succ, List.getElem?_cons_zero, Option.some.injEq] at ho
          subst ho
          have hx := ((Ex.refl (fun _ => False) wr).drew).trans hx (fun _ h => h.elim)
          obtain ⟨v5, s5, e5, y5⟩ := hp 5 (by kernel_rfl)
          have e5 := e5 20 rfl
          obtain rfl : v5 = (.pointer (some ⟨g, i * 10, none⟩)) := s5
          clear y5
          clear hp hb
          have hlg := lt_of_blk HCS.out
          have h0 : w1.cell? ⟨g, i * 10, none⟩ = some (.int .u8 p.k.f0) := ((HX.out.trans hx (fun _ h => h.elim)).cell hlg (fun h => h) _).trans (HPC.out 0 _ rfl)
          have h1 : w1.cell? ⟨g, i * 10 + 1, none⟩ = some (.int .i64 p.k.f1) := ((HX.out.trans hx (fun _ h => h.elim)).cell hlg (fun h => h) _).trans (HPC.out 1 _ rfl)
          have h2 : w1.cell? ⟨g, i * 10 + 2, none⟩ = some (.string p.k.f2) := ((HX.out.trans hx (fun _ h => h.elim)).cell hlg (fun h => h) _).trans (HPC.out 2 _ rfl)
          have h3 : w1.cell? ⟨g, i * 10 + 3, none⟩ = some (.slice p.A p.k.f3.length p.c) := ((HX.out.trans hx (fun _ h => h.elim)).cell hlg (fun h => h) _).trans (HPC.out 3 _ rfl)
          have h4 : w1.cell? ⟨g, i * 10 + 4, none⟩ = some (.int .i64 p.k.f4) := ((HX.out.trans hx (fun _ h => h.elim)).cell hlg (fun h => h) _).trans (HPC.out 4 _ rfl)
          have hlg1 := lt_of_blk ((HX.out.trans hx (fun _ h => h.elim)).blk HCS.out (fun h => h))
          refine wantL rfl ⟨.pointer (some ⟨g, i * 10, none⟩), w1, ?_, Ex.refl _ _, rfl⟩
          go_simp
        · intro o ho ρ yl w1 hx hc hf hgl hp hb
          simp only [List.getElem?_toArray, List.getElem?_cons_succ, List.getElem?_cons_zero, Option.some.injEq] at ho
          subst ho
          have hx := ((Ex.refl (fun _ => False) wr).drew).trans hx (fun _ h => h.elim)
          obtain ⟨v6, s6, e6, y6⟩ := hp 6 (by kernel_rfl)
          have e6 := e6 21 rfl
          obtain rfl : v6 = (.pointer (some ⟨g, i * 10, none⟩)) := s6
          clear y6
          clear hp hb
          have hlg := lt_of_blk HCS.out
          have h0 : w1.cell? ⟨g, i * 10, none⟩ = some (.int .u8 p.k.f0) := ((HX.out.trans hx (fun _ h => h.elim)).cell hlg (fun h => h) _).trans (HPC.out 0 _ rfl)
          have h1 : w1.cell? ⟨g, i * 10 + 1, none⟩ = some (.int .i64 p.k.f1) := ((HX.out.trans hx (fun _ h => h.elim)).cell hlg (fun h => h) _).trans (HPC.out 1 _ rfl)
          have h2 : w1.cell? ⟨g, i * 10 + 2, none⟩ = some (.string p.k.f2) := ((HX.out.trans hx (fun _ h => h.elim)).cell hlg (fun h => h) _).trans (HPC.out 2 _ rfl)
          have h3 : w1.cell? ⟨g, i * 10 + 3, none⟩ = some (.slice p.A p.k.f3.length p.c) := ((HX.out.trans hx (fun _ h => h.elim)).cell hlg (fun h => h) _).trans (HPC.out 3 _ rfl)
          have h4 : w1.cell? ⟨g, i * 10 + 4, none⟩ = some (.int .i64 p.k.f4) := ((HX.out.trans hx (fun _ h => h.elim)).cell hlg (fun h => h) _).trans (HPC.out 4 _ rfl)
          have hlg1 := lt_of_blk ((HX.out.trans hx (fun _ h => h.elim)).blk HCS.out (fun h => h))
          refine wantL rfl ⟨.agg #[.int .u8 p.k.f0, .int .i64 p.k.f1, .string p.k.f2, .slice p.A p.k.f3.length p.c, .int .i64 p.k.f4], w1, ?_, Ex.refl _ _, rfl⟩
          go_simp
        · intro o ho ρ yl w1 hx hc hf hgl hp hb
          simp only [List.getElem?_toArray, List.getElem?_cons_succ, List.getElem?_cons_zero, Option.some.injEq] at ho
          subst ho
          have hx := ((Ex.refl (fun _ => False) wr).drew).trans hx (fun _ h => h.elim)
          have b3 := hb 3 (by kernel_rfl)
          clear hp hb
          have hb := hx.blk HB.out (fun h => h)
          have h0 := (blk_cell hb 0).trans rfl
          have h1 := (blk_cell hb 1).trans rfl
          have h2 := (blk_cell hb 2).trans rfl
          have h3 := (blk_cell hb 3).trans rfl
          have h4 := (blk_cell hb 4).trans rfl
          have hbl := lt_of_blk hb
          refine wantL rfl ⟨.agg #[.int .u8 x.f0, .int .i64 x.f1, .string x.f2, .slice A x.f3.length c, .int .i64 x.f4], w1, ?_, Ex.refl _ _, rfl⟩
          go_simp
        · intro o ho ρ yl w1 hx hc hf hgl hp hb
          simp only [List.getElem?_toArray, List.getElem?_cons_succ, List.getElem?_cons_zero, Option.some.injEq] at ho
          subst ho
          have hx := ((Ex.refl (fun _ => False) wr).drew).trans hx (fun _ h => h.elim)
          obtain ⟨v7, s7, e7, y7⟩ := hp 7 (by kernel_rfl)
          have e7 := e7 22 rfl
          obtain rfl : v7 = (.agg #[.int .u8 p.k.f0, .int .i64 p.k.f1, .string p.k.f2, .slice p.A p.k.f3.length p.c, .int .i64 p.k.f4]) := s7
          clear y7
          obtain ⟨v8, s8, e8, y8⟩ := hp 8 (by kernel_rfl)
          have e8 := e8 23 rfl
          obtain rfl : v8 = (.agg #[.int .u8 x.f0, .int .i64 x.f1, .string x.f2, .slice A x.f3.length c, .int .i64 x.f4]) := s8
          clear y8
          clear hp hb
          refine wantR rfl ⟨26, #[.agg #[.int .u8 p.k.f0, .int .i64 p.k.f1, .string p.k.f2, .slice p.A p.k.f3.length p.c, .int .i64 p.k.f4], .agg #[.int .u8 x.f0, .int .i64 x.f1, .string x.f2, .slice A x.f3.length c, .int .i64 x.f4]], exec_call' Try.func26 (by kernel_rfl) rfl _ rfl (by simp [e7, e8]) (hf 26), ?_⟩
          refine (same_calls p.k x p.A A p.c c _ HG.out.lk (Kd.F_now (ex_F hx HG.out.fk (fun _ _ h => h))) HC.out (Kd.F_now (ex_F (HX.out.trans hx (fun _ h => h.elim)) HF.out (fun _ _ h => h))) HG.out.sk).mono ?_
          rintro e' wq ⟨rfl, hq0⟩
          exact ⟨_, rfl, Ex.of_below hq0, rfl⟩
      · intro i hil
        exact absurd hil (by simp)
      · intro xs w1 hx hs KQ hKK
        have s0 : xs 0 = (.pointer (some ⟨h, 0, none⟩)) := hs 0 (by omega)
        have s1 : xs 1 = (.pointer (some ⟨h, 0, none⟩)) := hs 1 (by omega)
        have s2 : xs 2 = (.pointer (some ⟨h, 0, none⟩)) := hs 2 (by omega)
        have s3 : xs 3 = (.slice (some ⟨g, 0, none⟩) l.length cm) := hs 3 (by omega)
        have s4 : xs 4 = (.int .i64 i) := hs 4 (by omega)
        have s5 : xs 5 = (.pointer (some ⟨g, i * 10, none⟩)) := hs 5 (by omega)
        have s6 : xs 6 = (.pointer (some ⟨g, i * 10, none⟩)) := hs 6 (by omega)
        have s7 : xs 7 = (.agg #[.int .u8 p.k.f0, .int .i64 p.k.f1, .string p.k.f2, .slice p.A p.k.f3.length p.c, .int .i64 p.k.f4]) := hs 7 (by omega)
        have s8 : xs 8 = (.agg #[.int .u8 x.f0, .int .i64 x.f1, .string x.f2, .slice A x.f3.length c, .int .i64 x.f4]) := hs 8 (by omega)
        have s9 : xs 9 = (.bool (eqS p.k x)) := hs 9 (by omega)
        clear hs
        simp only [putSlots, dstOf, List.getElem?_toArray, List.getElem?_cons_succ, List.getElem?_cons_zero, Option.bind_some, List.setIfInBounds_toArray, List.set_cons_zero, List.set_cons_succ, List.drop_succ_cons, List.drop_zero]
        rw [s0, s1, s2, s3, s4, s5, s6, s7, s8, s9]
        clear s0 s1 s2 s3 s4 s5 s6 s7 s8 s9
        have HX1 := Aside0.mk hx
        clear hx
        cases he : eqS p.k x with
        | true =>
          go_wp2_with fail
          go_ret
          refine ⟨?_, HX.out.trans HX1.out (fun _ h => h.elim)⟩
          rw [posP_at HP.out he HN.out]
          rfl
        | false =>
          have HE := Aside0.mk he
          clear he
          go_wp2_with fail
          go_roundg (gk - 1)
          case measure => have := HM.out; omega
          case rel => exact ⟨i + 1, by go_num, ⟨by have := HM.out; omega⟩, ⟨fun j q hj hq => by rcases Nat.lt_succ_iff_lt_or_eq.1 hj with h | h; exact HN.out j q h hq; subst h; have e := hq.symm.trans HP.out; cases e; exact HE.out⟩, ⟨HX1.out.blk HB.out (fun h => h)⟩, ⟨HX.out.trans HX1.out (fun _ h => h.elim)⟩⟩
    · have hii : ¬ (i : Int) < (l.length : Int) := by omega
      go_wp2_with fail
      go_ret
      refine ⟨?_, HX.out⟩
      rw [posP_none (fun j q hq => HN.out j q (by have := (List.getElem?_eq_some_iff.1 hq).1; have := HM.out; omega) hq)]
      rfl
end Go.Proofs.Ythkemcekcfccpaa.PBrandCompares
end
section
namespace Go.Proofs.Ythkemcekcfccpaa.PBrandCompares
open Go.RowKit Go.Proofs.YthkemcekcfccpaaW.PrintWords Go.Proofs.YthkemcekcfccpaaW.PrintLast Go.Proofs.YthkemcekcfccpaaW.PrintMore
open Go.Proofs.Ythkemcekcfccpaa.GBrandCompares
set_option linter.unusedVariables false
set_option linter.unusedSimpArgs false
def NoP (l : List Pr) (x : S27) : Prop := ∀ (j : Nat) (q : Pr), l[j]? = some q → eqS q.k x = false
def AtP (l : List Pr) (x : S27) (i : Nat) (p : Pr) : Prop := l[i]? = some p ∧ p.k = x ∧ ∀ (j : Nat) (q : Pr), j < i → l[j]? = some q → eqS q.k x = false
theorem posP_cases (l : List Pr) (x : S27) : (posP l x = -1 ∧ NoP l x) ∨ ∃ (i : Nat) (p : Pr), posP l x = (i : Int) ∧ i < l.length ∧ AtP l x i p := by
  cases h : l.findIdx? (fun p => eqS p.k x) with
  | none =>
    left
    rw [List.findIdx?_eq_none_iff] at h
    have h' : NoP l x := fun j q hq => h q (List.mem_of_getElem? hq)
    exact ⟨posP_none h', h'⟩
  | some i =>
    right
    rw [List.findIdx?_eq_some_iff_getElem] at h
    obtain ⟨h1, h2, h3⟩ := h
    have hn : ∀ (j : Nat) (q : Pr), j < i → l[j]? = some q → eqS q.k x = false := fun j q hj hq => by
      have := h3 j hj
      obtain ⟨a, b⟩ := List.getElem?_eq_some_iff.1 hq
      rw [b] at this
      simpa using this
    exact ⟨i, _, posP_at (List.getElem?_eq_getElem h1) h2 hn, h1, List.getElem?_eq_getElem h1, eqS_iff.1 h2, hn⟩
abbrev RGET (x : S27) (A : Option Addr) (c h : Nat) (w : World) (R : Ending → World → Prop) : Prop :=
  Calls Try.prog 46 #[.pointer (some ⟨h, 0, none⟩), .agg #[.int .u8 x.f0, .int .i64 x.f1, .string x.f2, .slice A x.f3.length c, .int .i64 x.f4]] w R
set_option maxHeartbeats 1000000 in
set_option maxRecDepth 100000 in
theorem rget_calls {ok okx : Nat → Prop} {base h : Nat} {u : Value} {l : List Pr} (x : S27) (A : Option Addr) (c : Nat) (w : World) (hr : RT w base ok h u l) (hl : l.length < 1000000) (hc : x.f3.length ≤ c) (hF : Kd.F k27 w okx A x.f3.length x.f3) :
    RGET x A c h w fun e w' => Ex (fun _ => False) w w' ∧ ((NoP l x ∧ e = .returned (.tuple #[zval, .bool false])) ∨ ∃ (i : Nat) (p : Pr), AtP l x i p ∧ e = .returned (.tuple #[.agg #[.int .u8 p.v.f0, .int .i64 p.v.f1, .string p.v.f2, .slice p.B p.v.f3.length p.d, .int .i64 p.v.f4], .bool true])) := by
  have HR := Aside0.mk hr
  have HF := Aside0.mk hF
  have HC := Aside0.mk hc
  have hX0 := ((Ex.refl (fun _ => False) w).alloc (.cells #[.int .u8 x.f0, .int .i64 x.f1, .string x.f2, .slice A x.f3.length c, .int .i64 x.f4] 27)).alloc (.cells #[.int .u8 0, .int .i64 0, .string ⟨#[]⟩, .slice none 0 0, .int .i64 0] 27)
  have HX0 := Aside0.mk hX0
  have HB0 := Aside0.mk (blk_new2 w (.cells #[.int .u8 x.f0, .int .i64 x.f1, .string x.f2, .slice A x.f3.length c, .int .i64 x.f4] 27) (.cells #[.int .u8 0, .int .i64 0, .string ⟨#[]⟩, .slice none 0 0, .int .i64 0] 27))
  clear hr hF hc hX0
  unfold RGET
  go_enter Try.func46, Try.ntmps46
  go_wp2_with fail
  refine (at_calls x A c _ (HR.out.ex0 HX0.out) hl HC.out (ex_F HX0.out HF.out (fun _ _ h => h))).mono ?_
  rintro e w1 ⟨rfl, hx⟩
  have HX1 := Aside0.mk (HX0.out.trans hx (fun _ h => h.elim))
  have HB1 := Aside0.mk (hx.blk HB0.out (fun h => h))
  clear hx
  have bc0 := (blk_cell HB1.out 0).trans rfl
  have bc1 := (blk_cell HB1.out 1).trans rfl
  have bc2 := (blk_cell HB1.out 2).trans rfl
  have bc3 := (blk_cell HB1.out 3).trans rfl
  have bc4 := (blk_cell HB1.out 4).trans rfl
  have bf0 := blk_frozen HB1.out 0
  have bf1 := blk_frozen HB1.out 1
  have bf2 := blk_frozen HB1.out 2
  have bf3 := blk_frozen HB1.out 3
  have bf4 := blk_frozen HB1.out 4
  have bl := lt_of_blk HB1.out
  rcases posP_cases l x with ⟨hp, hn⟩ | ⟨i, p, hp, hil, hat⟩
  · rw [hp]
    have HN := Aside0.mk hn
    clear hn hp
    go_wp2_with fail
    refine bodyPost_ret (results_row_tmp rfl _ _ (w.heap.size + 1) 27 _ (0, 0) _ rfl (put27 HB1.out rfl _ _ _ _ _) Try.underlying27 rfl size27) rfl ?_
    exact ⟨ex_put27 HX1.out (.inr (by omega)) _ _ _ _ _, .inl ⟨HN.out, rfl⟩⟩
  · rw [hp]
    obtain ⟨M, cm, hu, hcm, hcells⟩ := own_pairs HR.out.own
    subst hu
    obtain ⟨g, cs, hM, _, _, hcs, hsz, hpc⟩ := hcells i p hat.1
    subst hM
    have hii : (i : Int) < (l.length : Int) := by omega
    have hi0 : (0 : Int) ≤ (i : Int) := by omega
    have hin : ¬ (i : Int) < 0 := by omega
    have hi100 : i < 1000000 := by omega
    have hh := HX1.out.blk HR.out.hh (fun h => h)
    have c0 := (blk_cell hh 0).trans rfl
    have hhl := lt_of_blk hh
    have hlg := lt_of_blk hcs
    have h5 : w1.cell? ⟨g, i * 10 + 5, none⟩ = some (.int .u8 p.v.f0) := (HX1.out.cell hlg (fun h => h) _).trans (hpc 5 _ rfl)
    have h6 : w1.cell? ⟨g, i * 10 + 6, none⟩ = some (.int .i64 p.v.f1) := (HX1.out.cell hlg (fun h => h) _).trans (hpc 6 _ rfl)
    have h7 : w1.cell? ⟨g, i * 10 + 7, none⟩ = some (.string p.v.f2) := (HX1.out.cell hlg (fun h => h) _).trans (hpc 7 _ rfl)
    have h8 : w1.cell? ⟨g, i * 10 + 8, none⟩ = some (.slice p.B p.v.f3.length p.d) := (HX1.out.cell hlg (fun h => h) _).trans (hpc 8 _ rfl)
    have h9 : w1.cell? ⟨g, i * 10 + 9, none⟩ = some (.int .i64 p.v.f4) := (HX1.out.cell hlg (fun h => h) _).trans (hpc 9 _ rfl)
    have hg1 := lt_of_blk (HX1.out.blk hcs (fun h => h))
    have HAT := Aside0.mk hat
    clear hat hp hpc hcells hcs hh hlg
    go_wp2_with fail
    refine bodyPost_ret (results_row_tmp rfl _ _ (w.heap.size + 1) 27 _ (0, 0) _ rfl (put27 HB1.out rfl _ _ _ _ _) Try.underlying27 rfl size27) rfl ?_
    exact ⟨ex_put27 HX1.out (.inr (by omega)) _ _ _ _ _, .inr ⟨i, p, HAT.out, rfl⟩⟩
end Go.Proofs.Ythkemcekcfccpaa.PBrandCompares
end
section
namespace Go.Proofs.Ythkemcekcfccpaa.PBrandCompares
open Go.RowKit Go.Proofs.YthkemcekcfccpaaW.PrintWords Go.Proofs.YthkemcekcfccpaaW.PrintLast Go.Proofs.YthkemcekcfccpaaW.PrintMore
open Go.Proofs.Ythkemcekcfccpaa.GBrandCompares
set_option linter.unusedVariables false
set_option linter.unusedSimpArgs false
theorem info88 : (Try.prog.info? 88).map (fun i => (i.zero, i.size, i.bytes)) = some (some (.agg #[.int .u8 0, .int .i64 0, .string ⟨#[]⟩, .slice none 0 0, .int .i64 0, .int .u8 0, .int .i64 0, .string ⟨#[]⟩, .slice none 0 0, .int .i64 0]), 10, 128) := by kernel_rfl
theorem run_app {w : World} {base : Nat} {u : Value} {n m c : Nat} {xs news : List Value} (ty : TypeId) (hown : w.ownsRow base 88 10 u n xs) (a : Addr) (hl : news.length = m * 10) (hnews : ∀ j q, news[j]? = some q → w.cell? (a.add j) = some q) (h1 : ∀ q ∈ news, q.oneCell' = true) (hn : n + m < 2000000) (hbase : base ≤ w.heap.size) :
    ∃ v w', (Builtin.append_ #[53, 53] ty #[u, .slice (some a) m c]).run Try.prog w = .ok v w' ∧ w'.ownsRow base 88 10 v (n + m) (xs ++ news) ∧ Ex (fun b => some b = u.ownBlock) w w' ∧ (v.ownBlock = u.ownBlock ∨ v.ownBlock = some w.heap.size) := by
  obtain ⟨i0, hi, hz0, hz1, hz2⟩ := info_parts info88
  obtain ⟨v, w', hr, ho, hg, _, hat⟩ := run_append_own_at (P := Try.prog) w base 53 ty 88 i0 _ 10 128 Try.underlying53 hi hz0 hz1 hz2 rfl (by decide) u n xs hown a m c news hl hnews h1 (by simp only [maxLen]; omega) (by omega) hbase
  exact ⟨v, w', hr, ho, ⟨hg.os, hg.tape, hg.output, hg.size, fun b hb hn => hg.block b hb (fun e => hn e)⟩, hat⟩
theorem cells_one (p : Pr) : ∀ q ∈ p.cells, q.oneCell' = true := by
  intro q hq
  simp only [Pr.cells, List.mem_cons, List.mem_nil_iff, or_false] at hq
  rcases hq with h | h | h | h | h | h | h | h | h | h <;> (subst h; rfl)
theorem flat_one (l : List Pr) : ∀ q ∈ l.flatMap Pr.cells, q.oneCell' = true := by
  intro q hq
  obtain ⟨p, _, hp⟩ := List.mem_flatMap.1 hq
  exact cells_one p q hp
theorem flat_set (a b c d e : Value) : ∀ (l : List Pr) (i : Nat) (p q : Pr), l[i]? = some p → q.cells = (((((p.cells.set 5 a).set 6 b).set 7 c).set 8 d).set 9 e) →
    ((((((l.flatMap Pr.cells).set (i * 10 + 5) a).set (i * 10 + 5 + 1) b).set (i * 10 + 5 + 2) c).set (i * 10 + 5 + 3) d).set (i * 10 + 5 + 4) e) = (l.set i q).flatMap Pr.cells
  | [], i, p, q, h, _ => by simp at h
  | x :: l, 0, p, q, h, hq => by
    have : x = p := by simpa using h
    subst this
    rw [List.set_cons_zero, List.flatMap_cons, List.flatMap_cons, hq]
    simp [Pr.cells]
  | x :: l, i + 1, p, q, h, hq => by
    have ih := flat_set a b c d e l i p q (by simpa using h) hq
    rw [List.set_cons_succ, List.flatMap_cons, List.flatMap_cons, ← ih]
    have hx : x.cells.length = 10 := rfl
    have key : ∀ (ys : List Value) (k : Nat) (v : Value), (x.cells ++ ys).set ((i + 1) * 10 + k) v = x.cells ++ ys.set (i * 10 + k) v := by
      intro ys k v
      rw [List.set_append_right _ _ (by rw [hx]; omega), hx, show (i + 1) * 10 + k - 10 = i * 10 + k by omega]
    rw [show (i + 1) * 10 + 5 + 1 = (i + 1) * 10 + 6 by omega, show (i + 1) * 10 + 5 + 2 = (i + 1) * 10 + 7 by omega, show (i + 1) * 10 + 5 + 3 = (i + 1) * 10 + 8 by omega, show (i + 1) * 10 + 5 + 4 = (i + 1) * 10 + 9 by omega, key, key, key, key, key]
def SlAt (lo : Nat) (o : Obj) : Value → World → Prop := fun v w => ∃ g, v = .slice (some ⟨g, 0, none⟩) 1 1 ∧ lo ≤ g ∧ w.heap[g]? = some o
theorem SlAt.ex {S : Nat → Prop} {lo : Nat} {o : Obj} {v : Value} {w w1 : World} (h : SlAt lo o v w) (hx : Ex S w w1) (hs : ∀ b, S b → b < lo) : SlAt lo o v w1 := let ⟨g, h1, h2, h3⟩ := h; ⟨g, h1, h2, hx.blk h3 (fun e => by have := hs g e; omega)⟩
def JF (W : World) (bp : Bool) (_ : Bool) (_ : Value) (w : World) : Prop := bp = false → Ex (fun _ => False) W w
def Grown (base lo : Nat) (u : Value) (n : Nat) (xs : List Value) (v : Value) (w : World) : Prop := w.ownsRow base 88 10 v n xs ∧ (v.ownBlock = u.ownBlock ∨ ∃ b, v.ownBlock = some b ∧ lo ≤ b)
theorem Grown.ex {base lo n : Nat} {u v : Value} {xs : List Value} {w w1 : World} (h : Grown base lo u n xs v w) (hx : Ex (fun _ => False) w w1) : Grown base lo u n xs v w1 := ⟨mine_ex0 h.1 hx, h.2⟩
theorem mine_lt {w : World} {base n : Nat} {v : Value} {xs : List Value} (h : w.ownsRow base 88 10 v n xs) {b : Nat} (hb : some b = v.ownBlock) : b < w.heap.size := by
  rcases h.2 with ⟨rfl, _⟩ | ⟨g, cap, cur, rfl, _, hg, _⟩
  · simp [Value.ownBlock] at hb
  · simp only [Value.ownBlock, Option.some.injEq] at hb
    subst hb
    exact lt_of_blk hg
abbrev RPUT (x y : S27) (A B : Option Addr) (c c2 h : Nat) (w : World) (R : Ending → World → Prop) : Prop :=
  Calls Try.prog 45 #[.pointer (some ⟨h, 0, none⟩), .agg #[.int .u8 x.f0, .int .i64 x.f1, .string x.f2, .slice A x.f3.length c, .int .i64 x.f4], .agg #[.int .u8 y.f0, .int .i64 y.f1, .string y.f2, .slice B y.f3.length c2, .int .i64 y.f4]] w R
set_option maxHeartbeats 4000000 in
set_option maxRecDepth 100000 in
theorem rput_calls {ok : Nat → Prop} {base h : Nat} {u : Value} {l : List Pr} (x y : S27) (A B : Option Addr) (c c2 : Nat) (w : World) (hr : RT w base ok h u l) (hl : l.length < 1000000) (hb : base ≤ w.heap.size) (hbh : base ≤ h) (hok : ∀ b, ok b → b < base) (hp : Pr.Good w ok (Pr.mk x y A c B c2)) :
    RPUT x y A B c c2 h w fun e w' => Ex (fun b => b = h ∨ some b = u.ownBlock) w w' ∧ ((NoP l x ∧ e = .returned (.tuple #[zval, .bool false]) ∧ ∃ u', RT w' base ok h u' (l ++ [(Pr.mk x y A c B c2)]) ∧ (u'.ownBlock = u.ownBlock ∨ ∃ b, u'.ownBlock = some b ∧ w.heap.size ≤ b)) ∨
      ∃ (i : Nat) (p : Pr), AtP l x i p ∧ e = .returned (.tuple #[.agg #[.int .u8 p.v.f0, .int .i64 p.v.f1, .string p.v.f2, .slice p.B p.v.f3.length p.d, .int .i64 p.v.f4], .bool true]) ∧ RT w' base ok h u (l.set i ⟨p.k, y, p.A, p.c, B, c2⟩)) := by
  have HR := Aside0.mk hr
  have HP := Aside0.mk hp
  have HB := Aside0.mk hb
  have HK := Aside0.mk hok
  have HBH := Aside0.mk hbh
  have HX0 := Aside0.mk ((((Ex.refl (fun _ => False) w).alloc (.cells #[.int .u8 x.f0, .int .i64 x.f1, .string x.f2, .slice A x.f3.length c, .int .i64 x.f4] 27)).alloc (.cells #[.int .u8 y.f0, .int .i64 y.f1, .string y.f2, .slice B y.f3.length c2, .int .i64 y.f4] 27)).alloc (.cells #[.int .u8 0, .int .i64 0, .string ⟨#[]⟩, .slice none 0 0, .int .i64 0] 27))
  have HB0 := Aside0.mk (blk_alloc (blk_alloc (blk_new1 w (.cells #[.int .u8 x.f0, .int .i64 x.f1, .string x.f2, .slice A x.f3.length c, .int .i64 x.f4] 27)) (.cells #[.int .u8 y.f0, .int .i64 y.f1, .string y.f2, .slice B y.f3.length c2, .int .i64 y.f4] 27)) (.cells #[.int .u8 0, .int .i64 0, .string ⟨#[]⟩, .slice none 0 0, .int .i64 0] 27))
  have HB1 := Aside0.mk (blk_alloc (blk_new2 w (.cells #[.int .u8 x.f0, .int .i64 x.f1, .string x.f2, .slice A x.f3.length c, .int .i64 x.f4] 27) (.cells #[.int .u8 y.f0, .int .i64 y.f1, .string y.f2, .slice B y.f3.length c2, .int .i64 y.f4] 27)) (.cells #[.int .u8 0, .int .i64 0, .string ⟨#[]⟩, .slice none 0 0, .int .i64 0] 27))
  have HB2 := Aside0.mk (blk_new3 w (.cells #[.int .u8 x.f0, .int .i64 x.f1, .string x.f2, .slice A x.f3.length c, .int .i64 x.f4] 27) (.cells #[.int .u8 y.f0, .int .i64 y.f1, .string y.f2, .slice B y.f3.length c2, .int .i64 y.f4] 27) (.cells #[.int .u8 0, .int .i64 0, .string ⟨#[]⟩, .slice none 0 0, .int .i64 0] 27))
  have hhl0 := lt_of_blk hr.hh
  clear hr hp hb hok hbh
  unfold RPUT
  go_enter Try.func45, Try.ntmps45
  go_wp2_with fail
  refine (at_calls x A c _ (HR.out.ex0 HX0.out) hl HP.out.lk (ex_F HX0.out HP.out.fk (fun _ _ h => h))).mono ?_
  rintro e wO ⟨rfl, hx⟩
  have HX1 := Aside0.mk (HX0.out.trans hx (fun _ h => h.elim))
  have HB0' := Aside0.mk (hx.blk HB0.out (fun h => h))
  have HB1' := Aside0.mk (hx.blk HB1.out (fun h => h))
  have HB2' := Aside0.mk (hx.blk HB2.out (fun h => h))
  have HR1 := Aside0.mk (HR.out.ex0 HX1.out)
  clear hx HB0 HB1 HB2 HX0
  rcases posP_cases l x with ⟨hp, hn⟩ | ⟨i, p, hp, hil, hat⟩
  · rw [hp]
    have HN := Aside0.mk hn
    clear hn hp
    go_upto_region 3 with (fail)
    refine region_byJ 10 [] (specL [Is (.pointer (some ⟨h, 0, none⟩)), Is (.pointer (some ⟨h, 0, none⟩)), Is (.pointer (some ⟨h, 0, none⟩)), Is (.pointer (some ⟨h, 0, none⟩)), Is (u), Is (.agg #[.int .u8 x.f0, .int .i64 x.f1, .string x.f2, .slice A x.f3.length c, .int .i64 x.f4]), Is (.agg #[.int .u8 y.f0, .int .i64 y.f1, .string y.f2, .slice B y.f3.length c2, .int .i64 y.f4]), Is (.agg #[.int .u8 x.f0, .int .i64 x.f1, .string x.f2, .slice A x.f3.length c, .int .i64 x.f4, .int .u8 y.f0, .int .i64 y.f1, .string y.f2, .slice B y.f3.length c2, .int .i64 y.f4]), SlAt wO.heap.size (.cells #[.int .u8 x.f0, .int .i64 x.f1, .string x.f2, .slice A x.f3.length c, .int .i64 x.f4, .int .u8 y.f0, .int .i64 y.f1, .string y.f2, .slice B y.f3.length c2, .int .i64 y.f4] 88), Grown base wO.heap.size u (l.length + 1) ((l ++ [(Pr.mk x y A c B c2)]).flatMap Pr.cells)]) ⟨9, 0, JF wO⟩ (show (0 : Nat) < 10 from by decide) (show (9 : Nat) ∉ [] ∧ (0 : Nat) ∉ [] from by decide) (by kernel_rfl) (by kernel_rfl) (fun b : Nat => some b = u.ownBlock) (only 9 (fun b : Nat => some b = u.ownBlock)) (fun _ _ h => h.2) (stabS_all 9 (stab_cons (stab_is _) (stab_cons (stab_is _) (stab_cons (stab_is _) (stab_cons (stab_is _) (stab_cons (stab_is _) (stab_cons (stab_is _) (stab_cons (stab_is _) (stab_cons (stab_is _) (stab_cons (fun _ _ _ h hx => SlAt.ex h hx (fun _ h => h.elim)) (stab_cons (fun _ _ _ h hx => Grown.ex h hx) (stab_nil))))))))))) (stabS_start (stabS_cons (fun _ => stabS_is _ _) (stabS_cons (fun _ => stabS_is _ _) (stabS_cons (fun _ => stabS_is _ _) (stabS_cons (fun _ => stabS_is _ _) (stabS_cons (fun _ => stabS_is _ _) (stabS_cons (fun _ => stabS_is _ _) (stabS_cons (fun _ => stabS_is _ _) (stabS_cons (fun _ => stabS_is _ _) (stabS_cons (fun _ => fun _ _ _ h hx => SlAt.ex h hx (fun b hb => mine_lt HR1.out.own hb)) (stabS_cons (fun h => absurd rfl h) (stabS_nil _ _ _))))))))))))) ?_ ?_ (fun _ => (Ex.refl _ _).drew) ?_
    · intro i hi hnl
      obtain rfl | rfl | rfl | rfl | rfl | rfl | rfl | rfl | rfl | rfl : i = 0 ∨ i = 1 ∨ i = 2 ∨ i = 3 ∨ i = 4 ∨ i = 5 ∨ i = 6 ∨ i = 7 ∨ i = 8 ∨ i = 9 := by omega
      · intro o ho ρ yl w1 hx hc hf hgl hp hb bp bq jv hJ hjp hjq
        simp only [List.getElem?_toArray, List.getElem?_cons_succ, List.getElem?_cons_zero, Option.some.injEq] at ho
        subst ho
        have hx := ((Ex.refl (fun b : Nat => some b = u.ownBlock) wO).drew).trans hx (fun _ h => .inl h)
        have b0 := hb 0 (by kernel_rfl)
        clear hp hb
        refine wantL rfl ⟨.pointer (some ⟨h, 0, none⟩), w1, ?_, Ex.refl _ _, rfl, fun hb => hJ (by simpa using hb)⟩
        go_simp
      · intro o ho ρ yl w1 hx hc hf hgl hp hb bp bq jv hJ hjp hjq
        simp only [List.getElem?_toArray, List.getElem?_cons_succ, List.getElem?_cons_zero, Option.some.injEq] at ho
        subst ho
        have hx := ((Ex.refl (fun b : Nat => some b = u.ownBlock) wO).drew).trans hx (fun _ h => .inl h)
        have b0 := hb 0 (by kernel_rfl)
        clear hp hb
        refine wantL rfl ⟨.pointer (some ⟨h, 0, none⟩), w1, ?_, Ex.refl _ _, rfl, fun hb => hJ (by simpa using hb)⟩
        go_simp
      · intro o ho ρ yl w1 hx hc hf hgl hp hb bp bq jv hJ hjp hjq
        simp only [List.getElem?_toArray, List.getElem?_cons_succ, List.getElem?_cons_zero, Option.some.injEq] at ho
        subst ho
        have hx := ((Ex.refl (fun b : Nat => some b = u.ownBlock) wO).drew).trans hx (fun _ h => .inl h)
        obtain ⟨v1, s1, e1, y1⟩ := hp 1 (by kernel_rfl)
        have e1 := e1 16 rfl
        obtain rfl : v1 = (.pointer (some ⟨h, 0, none⟩)) := s1
        clear y1
        clear hp hb
        have hh := hx.blk HR1.out.hh HR1.out.ne
        have c0 := (blk_cell hh 0).trans rfl
        have hhl := lt_of_blk hh
        refine wantL rfl ⟨.pointer (some ⟨h, 0, none⟩), w1, ?_, Ex.refl _ _, rfl, fun hb => hJ (by simpa using hb)⟩
        go_simp
      · intro o ho ρ yl w1 hx hc hf hgl hp hb bp bq jv hJ hjp hjq
        simp only [List.getElem?_toArray, List.getElem?_cons_succ, List.getElem?_cons_zero, Option.some.injEq] at ho
        subst ho
        have hx := ((Ex.refl (fun b : Nat => some b = u.ownBlock) wO).drew).trans hx (fun _ h => .inl h)
        obtain ⟨v2, s2, e2, y2⟩ := hp 2 (by kernel_rfl)
        have e2 := e2 17 rfl
        obtain rfl : v2 = (.pointer (some ⟨h, 0, none⟩)) := s2
        clear y2
        clear hp hb
        have hh := hx.blk HR1.out.hh HR1.out.ne
        have c0 := (blk_cell hh 0).trans rfl
        have hhl := lt_of_blk hh
        refine wantL rfl ⟨.pointer (some ⟨h, 0, none⟩), w1, ?_, Ex.refl _ _, rfl, fun hb => hJ (by simpa using hb)⟩
        go_simp
      · intro o ho ρ yl w1 hx hc hf hgl hp hb bp bq jv hJ hjp hjq
        simp only [List.getElem?_toArray, List.getElem?_cons_succ, List.getElem?_cons_zero, Option.some.injEq] at ho
        subst ho
        have hx := ((Ex.refl (fun b : Nat => some b = u.ownBlock) wO).drew).trans hx (fun _ h => .inl h)
        obtain ⟨v3, s3, e3, y3⟩ := hp 3 (by kernel_rfl)
        have e3 := e3 18 rfl
        obtain rfl : v3 = (.pointer (some ⟨h, 0, none⟩)) := s3
        clear y3
        clear hp hb
        have hh := hx.blk HR1.out.hh HR1.out.ne
        have c0 := (blk_cell hh 0).trans rfl
        have hhl := lt_of_blk hh
        refine wantL rfl ⟨u, w1, ?_, Ex.refl _ _, rfl, fun hb => hJ (by simpa using hb)⟩
        go_simp
      · intro o ho ρ yl w1 hx hc hf hgl hp hb bp bq jv hJ hjp hjq
        simp only [List.getElem?_toArray, List.getElem?_cons_succ, List.getElem?_cons_zero, Option.some.injEq] at ho
        subst ho
        have hx := ((Ex.refl (fun b : Nat => some b = u.ownBlock) wO).drew).trans hx (fun _ h => .inl h)
        have b4 := hb 4 (by kernel_rfl)
        clear hp hb
        have hb := hx.blk HB0'.out (fun e => by have := mine_lt HR.out.own e; omega)
        have h0 := (blk_cell hb 0).trans rfl
        have h1 := (blk_cell hb 1).trans rfl
        have h2 := (blk_cell hb 2).trans rfl
        have h3 := (blk_cell hb 3).trans rfl
        have h4 := (blk_cell hb 4).trans rfl
        have hbl := lt_of_blk hb
        refine wantL rfl ⟨.agg #[.int .u8 x.f0, .int .i64 x.f1, .string x.f2, .slice A x.f3.length c, .int .i64 x.f4], w1, ?_, Ex.refl _ _, rfl, fun hb => hJ (by simpa using hb)⟩
        go_simp
      · intro o ho ρ yl w1 hx hc hf hgl hp hb bp bq jv hJ hjp hjq
        simp only [List.getElem?_toArray, List.getElem?_cons_succ, List.getElem?_cons_zero, Option.some.injEq] at ho
        subst ho
        have hx := ((Ex.refl (fun b : Nat => some b = u.ownBlock) wO).drew).trans hx (fun _ h => .inl h)
        have b5 := hb 5 (by kernel_rfl)
        clear hp hb
        have hb := hx.blk HB1'.out (fun e => by have := mine_lt HR.out.own e; omega)
        have h0 := (blk_cell hb 0).trans rfl
        have h1 := (blk_cell hb 1).trans rfl
        have h2 := (blk_cell hb 2).trans rfl
        have h3 := (blk_cell hb 3).trans rfl
        have h4 := (blk_cell hb 4).trans rfl
        have hbl := lt_of_blk hb
        refine wantL rfl ⟨.agg #[.int .u8 y.f0, .int .i64 y.f1, .string y.f2, .slice B y.f3.length c2, .int .i64 y.f4], w1, ?_, Ex.refl _ _, rfl, fun hb => hJ (by simpa using hb)⟩
        go_simp
      · intro o ho ρ yl w1 hx hc hf hgl hp hb bp bq jv hJ hjp hjq
        simp only [List.getElem?_toArray, List.getElem?_cons_succ, List.getElem?_cons_zero, Option.some.injEq] at ho
        subst ho
        have hx := ((Ex.refl (fun b : Nat => some b = u.ownBlock) wO).drew).trans hx (fun _ h => .inl h)
        obtain ⟨v5, s5, e5, y5⟩ := hp 5 (by kernel_rfl)
        have e5 := e5 20 rfl
        obtain rfl : v5 = (.agg #[.int .u8 x.f0, .int .i64 x.f1, .string x.f2, .slice A x.f3.length c, .int .i64 x.f4]) := s5
        clear y5
        obtain ⟨v6, s6, e6, y6⟩ := hp 6 (by kernel_rfl)
        have e6 := e6 21 rfl
        obtain rfl : v6 = (.agg #[.int .u8 y.f0, .int .i64 y.f1, .string y.f2, .slice B y.f3.length c2, .int .i64 y.f4]) := s6
        clear y6
        clear hp hb
        refine wantL rfl ⟨.agg #[.int .u8 x.f0, .int .i64 x.f1, .string x.f2, .slice A x.f3.length c, .int .i64 x.f4, .int .u8 y.f0, .int .i64 y.f1, .string y.f2, .slice B y.f3.length c2, .int .i64 y.f4], w1, ?_, Ex.refl _ _, rfl, fun hb => hJ (by simpa using hb)⟩
        go_simp
      · intro o ho ρ yl w1 hx hc hf hgl hp hb bp bq jv hJ hjp hjq
        simp only [List.getElem?_toArray, List.getElem?_cons_succ, List.getElem?_cons_zero, Option.some.injEq] at ho
        subst ho
        have hx := ((Ex.refl (fun b : Nat => some b = u.ownBlock) wO).drew).trans hx (fun _ h => .inl h)
        obtain ⟨v7, s7, e7, y7⟩ := hp 7 (by kernel_rfl)
        have e7 := e7 22 rfl
        obtain rfl : v7 = (.agg #[.int .u8 x.f0, .int .i64 x.f1, .string x.f2, .slice A x.f3.length c, .int .i64 x.f4, .int .u8 y.f0, .int .i64 y.f1, .string y.f2, .slice B y.f3.length c2, .int .i64 y.f4]) := s7
        clear y7
        clear hp hb
        refine wantL rfl ⟨.slice (some ⟨w1.heap.size, 0, none⟩) 1 1, w1.alloc (.cells #[.int .u8 x.f0, .int .i64 x.f1, .string x.f2, .slice A x.f3.length c, .int .i64 x.f4, .int .u8 y.f0, .int .i64 y.f1, .string y.f2, .slice B y.f3.length c2, .int .i64 y.f4] 88), ?_, (Ex.refl _ _).alloc _, ⟨w1.heap.size, rfl, hx.size, blk_new1 _ _⟩, fun hb => (hJ (by simpa using hb)).alloc _⟩
        go_simp
      · intro o ho ρ yl w1 hx hc hf hgl hp hb bp bq jv hJ hjp hjq
        simp only [List.getElem?_toArray, List.getElem?_cons_succ, List.getElem?_cons_zero, Option.some.injEq] at ho
        subst ho
        have hx := ((Ex.refl (fun b : Nat => some b = u.ownBlock) wO).drew).trans hx (fun _ h => .inl h)
        obtain ⟨v4, s4, e4, y4⟩ := hp 4 (by kernel_rfl)
        have e4 := e4 19 rfl
        obtain rfl : v4 = (u) := s4
        clear y4
        obtain ⟨v8, s8, e8, y8⟩ := hp 8 (by kernel_rfl)
        have e8 := e8 23 rfl
        have s8 : (SlAt wO.heap.size (.cells #[.int .u8 x.f0, .int .i64 x.f1, .string x.f2, .slice A x.f3.length c, .int .i64 x.f4, .int .u8 y.f0, .int .i64 y.f1, .string y.f2, .slice B y.f3.length c2, .int .i64 y.f4] 88)) v8 w1 := s8
        clear y8
        clear hp hb
        have hjp := hjp rfl
        subst hjp
        have hx0 := hJ rfl
        obtain ⟨g9, hg9, _, hb9⟩ := s8
        subst hg9
        obtain ⟨v9, w9, hrun, ho9, hx9, hat9⟩ := run_app (m := 1) (c := 1) 53 (mine_ex0 HR1.out.own hx0) ⟨g9, 0, none⟩ (show (Pr.cells (Pr.mk x y A c B c2)).length = 1 * 10 from rfl) (fun j q hq => by rw [add_plain, blk_cell hb9]; simpa [Pr.cells] using hq) (cells_one _) (by omega) (Nat.le_trans HB.out (Nat.le_trans HX1.out.size hx0.size))
        refine wantL rfl ⟨v9, w9, ?_, ex_the hx9, ⟨by simpa [List.flatMap_append] using ho9, hat9.imp id (fun e => ⟨_, e, hx0.size⟩)⟩, fun hb => by simp at hb⟩
        simp only [execOp, resolve, invoke, builtin, Sem.run_bind, Sem.run_pure, Result.andThen_ok, List.map_toArray, List.map_cons, List.map_nil, e4, e8, hrun]
    · intro i hil
      exact absurd hil (by simp)
    · intro xs w1 hx hs hJJ KQ hKK
      have s0 : xs 0 = (.pointer (some ⟨h, 0, none⟩)) := hs 0 (by omega)
      have s1 : xs 1 = (.pointer (some ⟨h, 0, none⟩)) := hs 1 (by omega)
      have s2 : xs 2 = (.pointer (some ⟨h, 0, none⟩)) := hs 2 (by omega)
      have s3 : xs 3 = (.pointer (some ⟨h, 0, none⟩)) := hs 3 (by omega)
      have s4 : xs 4 = (u) := hs 4 (by omega)
      have s5 : xs 5 = (.agg #[.int .u8 x.f0, .int .i64 x.f1, .string x.f2, .slice A x.f3.length c, .int .i64 x.f4]) := hs 5 (by omega)
      have s6 : xs 6 = (.agg #[.int .u8 y.f0, .int .i64 y.f1, .string y.f2, .slice B y.f3.length c2, .int .i64 y.f4]) := hs 6 (by omega)
      have s7 : xs 7 = (.agg #[.int .u8 x.f0, .int .i64 x.f1, .string x.f2, .slice A x.f3.length c, .int .i64 x.f4, .int .u8 y.f0, .int .i64 y.f1, .string y.f2, .slice B y.f3.length c2, .int .i64 y.f4]) := hs 7 (by omega)
      have s8 : (SlAt wO.heap.size (.cells #[.int .u8 x.f0, .int .i64 x.f1, .string x.f2, .slice A x.f3.length c, .int .i64 x.f4, .int .u8 y.f0, .int .i64 y.f1, .string y.f2, .slice B y.f3.length c2, .int .i64 y.f4] 88)) (xs 8) w1 := hs 8 (by omega)
      have s9 : (Grown base wO.heap.size u (l.length + 1) ((l ++ [(Pr.mk x y A c B c2)]).flatMap Pr.cells)) (xs 9) w1 := hs 9 (by omega)
      clear hs
      simp only [putSlots, dstOf, List.getElem?_toArray, List.getElem?_cons_succ, List.getElem?_cons_zero, Option.bind_some, List.setIfInBounds_toArray, List.set_cons_zero, List.set_cons_succ, List.drop_succ_cons, List.drop_zero]
      rw [s0, s1, s2, s3, s4, s5, s6, s7]
      clear s0 s1 s2 s3 s4 s5 s6 s7
      obtain ⟨ho9, hat9⟩ := s9
      generalize xs 9 = v9 at ho9 hat9 ⊢
      have ho9 : w1.ownsRow base 88 10 v9 (l ++ [(Pr.mk x y A c B c2)]).length ((l ++ [(Pr.mk x y A c B c2)]).flatMap Pr.cells) := by simpa using ho9
      obtain ⟨M9, c9, hv9, _, _⟩ := own_pairs ho9
      have HO9 := Aside0.mk (And.intro ho9 hat9)
      have HV9 := Aside0.mk hv9
      clear ho9 hat9
      rw [show (l ++ [(Pr.mk x y A c B c2)]).length = l.length + 1 by simp] at hv9
      subst hv9
      clear HV9
      have hh := hx.blk HR1.out.hh HR1.out.ne
      have hfr := blk_frozen hh 0
      have c0 := (blk_cell hh 0).trans rfl
      have hhl := lt_of_blk hh
      have hbz := hx.blk HB2'.out (fun e => by have := mine_lt HR.out.own e; omega)
      have HXS := Aside0.mk (show Ex (fun b => b = h ∨ some b = u.ownBlock) w w1 from (HX1.out.mono (fun _ h => h.elim)).trans hx (fun b hb => .inl (.inr hb)))
      clear hx
      go_upto_region 4 with (fail)
      clear hfr c0 hhl
      have hxh : Ex (fun b => b = h) w1 (w1.setCell ⟨h, 0, none⟩ (.slice M9 (l.length + 1) c9)) := (Ex.refl (fun b => b = h) w1).set (p := ⟨h, 0, none⟩) (.inl rfl) _
      have hh2 : (w1.setCell ⟨h, 0, none⟩ (.slice M9 (l.length + 1) c9)).heap[h]? = some (.cells #[.slice M9 (l.length + 1) c9] 55 (0, 0)) := blk_put hh 0 (.slice M9 (l.length + 1) c9) rfl
      have hbz2 := hxh.blk hbz (by omega)
      generalize w1.setCell ⟨h, 0, none⟩ (.slice M9 (l.length + 1) c9) = w2 at hxh hh2 hbz2 ⊢
      have HH2 := Aside0.mk hh2
      have HXH := Aside0.mk hxh
      have HBZ := Aside0.mk (show w2.heap[w.heap.size + 1 + 1]? = some (.cells #[.int .u8 0, .int .i64 0, .string ⟨#[]⟩, .slice none 0 0, .int .i64 0] 27) from hbz2)
      clear hh hh2 hxh hbz hbz2
      have bc0 := (blk_cell HBZ.out 0).trans rfl
      have bf0 := blk_frozen HBZ.out 0
      have bc1 := (blk_cell HBZ.out 1).trans rfl
      have bf1 := blk_frozen HBZ.out 1
      have bc2 := (blk_cell HBZ.out 2).trans rfl
      have bf2 := blk_frozen HBZ.out 2
      have bc3 := (blk_cell HBZ.out 3).trans rfl
      have bf3 := blk_frozen HBZ.out 3
      have bc4 := (blk_cell HBZ.out 4).trans rfl
      have bf4 := blk_frozen HBZ.out 4
      have bl := lt_of_blk HBZ.out
      go_wp2_with fail
      refine bodyPost_ret (results_row_tmp rfl _ _ (w.heap.size + 1 + 1) 27 _ (0, 0) _ rfl (put27 HBZ.out rfl _ _ _ _ _) Try.underlying27 rfl size27) rfl ?_
      have hz : Ex (fun b => b = w.heap.size + 2) w2 _ := ex_put27 (Ex.refl (fun b => b = w.heap.size + 2) w2) (.inl rfl) (.int .u8 0) (.int .i64 0) (.string ⟨#[]⟩) (.slice none 0 0) (.int .i64 0)
      have hxw := (HXS.out.trans HXH.out (fun b hb => .inl (.inl hb))).trans hz (fun b hb => .inr (by omega))
      refine ⟨hxw, .inl ⟨HN.out, rfl, _, ⟨hz.blk HH2.out (by omega), mine_ex (mine_ex HO9.out.1 HXH.out (fun b hb => hb ▸ ?_)) hz (fun b hb => ?_), ?_, ?_⟩, ?_⟩⟩
      · rcases HO9.out.2 with e | ⟨b, e, hb⟩
        · rw [e]; exact HR.out.ne
        · rw [e]; intro e2; have := HX1.out.size; injection e2 with e2; omega
      · rcases HO9.out.2 with e | ⟨b', e, hb'⟩
        · rw [e]; intro e2; have := mine_lt HR.out.own e2; omega
        · rw [e]; intro e2; have := lt_of_blk HB2'.out; injection e2 with e2; omega
      · intro p hp
        have hs : ∀ b, ok b → ¬ (b = h ∨ some b = u.ownBlock) := fun b hb hs => by
          have h1 := HK.out b hb
          rcases hs with hs | hs
          · have := HBH.out; omega
          · have := mine_base HR.out.own hs; omega
        rcases List.mem_append.1 hp with h3 | h3
        · exact (HR.out.good p h3).ex hxw hs
        · rw [List.mem_singleton] at h3
          exact h3 ▸ HP.out.ex hxw hs
      · rcases HO9.out.2 with e | ⟨b, e, hb⟩
        · rw [e]; exact HR.out.ne
        · rw [e]; intro e2; have := HX1.out.size; injection e2 with e2; omega
      · exact HO9.out.2.imp id (fun ⟨b, e, hb⟩ => ⟨b, e, Nat.le_trans HX1.out.size hb⟩)
  · rw [hp]
    obtain ⟨M, cm, hu, hcm, hcells⟩ := own_pairs HR1.out.own
    subst hu
    obtain ⟨g, cs, hM, _, hgb, hcs, hsz, hpc⟩ := hcells i p hat.1
    subst hM
    have hii : (i : Int) < (l.length : Int) := by omega
    have hi0 : (0 : Int) ≤ (i : Int) := by omega
    have hin : ¬ (i : Int) < 0 := by omega
    have hi100 : i < 1000000 := by omega
    have hh := HR1.out.hh
    have c0 := (blk_cell hh 0).trans rfl
    have hhl := lt_of_blk hh
    have hg1 := lt_of_blk hcs
    have h5 : wO.cell? ⟨g, i * 10 + 5, none⟩ = some (.int .u8 p.v.f0) := hpc 5 _ rfl
    have h6 : wO.cell? ⟨g, i * 10 + 6, none⟩ = some (.int .i64 p.v.f1) := hpc 6 _ rfl
    have h7 : wO.cell? ⟨g, i * 10 + 7, none⟩ = some (.string p.v.f2) := hpc 7 _ rfl
    have h8 : wO.cell? ⟨g, i * 10 + 8, none⟩ = some (.slice p.B p.v.f3.length p.d) := hpc 8 _ rfl
    have h9 : wO.cell? ⟨g, i * 10 + 9, none⟩ = some (.int .i64 p.v.f4) := hpc 9 _ rfl
    have HAT := Aside0.mk hat
    have HCS := Aside0.mk hcs
    have HPC := Aside0.mk hpc
    have HIL := Aside0.mk (And.intro hil hsz)
    clear hat hp hpc hcells hcs hh
    go_upto_region 6 with (fail)
    clear c0 hhl hg1 h5 h6 h7 h8 h9
    have HBO := Aside0.mk (blk_new1 wO (.cells #[.int .u8 p.v.f0, .int .i64 p.v.f1, .string p.v.f2, .slice p.B p.v.f3.length p.d, .int .i64 p.v.f4] 27))
    have HXA := Aside0.mk ((Ex.refl (fun _ => False) wO).alloc (.cells #[.int .u8 p.v.f0, .int .i64 p.v.f1, .string p.v.f2, .slice p.B p.v.f3.length p.d, .int .i64 p.v.f4] 27))
    generalize wO.alloc (.cells #[.int .u8 p.v.f0, .int .i64 p.v.f1, .string p.v.f2, .slice p.B p.v.f3.length p.d, .int .i64 p.v.f4] 27) = wA at HBO HXA ⊢
    refine region_by 6 [] (specL [Is (.pointer (some ⟨h, 0, none⟩)), Is (.pointer (some ⟨h, 0, none⟩)), Is (.pointer (some ⟨h, 0, none⟩)), Is (.slice (some ⟨g, 0, none⟩) l.length cm), Is (.int .i64 i), Is (.agg #[.int .u8 y.f0, .int .i64 y.f1, .string y.f2, .slice B y.f3.length c2, .int .i64 y.f4])]) (by decide) (by decide) (by kernel_rfl) (by kernel_rfl) (stab_all (stab_cons (stab_is _) (stab_cons (stab_is _) (stab_cons (stab_is _) (stab_cons (stab_is _) (stab_cons (stab_is _) (stab_cons (stab_is _) (stab_nil)))))))) ?_ ?_ ?_
    · intro i hi hnl
      obtain rfl | rfl | rfl | rfl | rfl | rfl : i = 0 ∨ i = 1 ∨ i = 2 ∨ i = 3 ∨ i = 4 ∨ i = 5 := by omega
      · intro o ho ρ yl w1 hx hc hf hgl hp hb
        simp only [List.getElem?_toArray, List.getElem?_cons_succ, List.getElem?_cons_zero, Option.some.injEq] at ho
        subst ho
        have hx := ((Ex.refl (fun _ => False) wA).drew).trans hx (fun _ h => h.elim)
        have b0 := hb 0 (by kernel_rfl)
        clear hp hb
        refine wantL rfl ⟨.pointer (some ⟨h, 0, none⟩), w1, ?_, Ex.refl _ _, rfl⟩
        go_simp
      · intro o ho ρ yl w1 hx hc hf hgl hp hb
        simp only [List.getElem?_toArray, List.getElem?_cons_succ, List.getElem?_cons_zero, Option.some.injEq] at ho
        subst ho
        have hx := ((Ex.refl (fun _ => False) wA).drew).trans hx (fun _ h => h.elim)
        obtain ⟨v0, s0, e0, y0⟩ := hp 0 (by kernel_rfl)
        have e0 := e0 36 rfl
        obtain rfl : v0 = (.pointer (some ⟨h, 0, none⟩)) := s0
        clear y0
        clear hp hb
        have hh := (HXA.out.trans hx (fun _ h => h.elim)).blk HR1.out.hh (fun h => h)
        have c0 := (blk_cell hh 0).trans rfl
        have hhl := lt_of_blk hh
        refine wantL rfl ⟨.pointer (some ⟨h, 0, none⟩), w1, ?_, Ex.refl _ _, rfl⟩
        go_simp
      · intro o ho ρ yl w1 hx hc hf hgl hp hb
        simp only [List.getElem?_toArray, List.getElem?_cons_succ, List.getElem?_cons_zero, Option.some.injEq] at ho
        subst ho
        have hx := ((Ex.refl (fun _ => False) wA).drew).trans hx (fun _ h => h.elim)
        obtain ⟨v1, s1, e1, y1⟩ := hp 1 (by kernel_rfl)
        have e1 := e1 37 rfl
        obtain rfl : v1 = (.pointer (some ⟨h, 0, none⟩)) := s1
        clear y1
        clear hp hb
        have hh := (HXA.out.trans hx (fun _ h => h.elim)).blk HR1.out.hh (fun h => h)
        have c0 := (blk_cell hh 0).trans rfl
        have hhl := lt_of_blk hh
        refine wantL rfl ⟨.pointer (some ⟨h, 0, none⟩), w1, ?_, Ex.refl _ _, rfl⟩
        go_simp
      · intro o ho ρ yl w1 hx hc hf hgl hp hb
        simp only [List.getElem?_toArray, List.getElem?_cons_succ, List.getElem?_cons_zero, Option.some.injEq] at ho
        subst ho
        have hx := ((Ex.refl (fun _ => False) wA).drew).trans hx (fun _ h => h.elim)
        obtain ⟨v2, s2, e2, y2⟩ := hp 2 (by kernel_rfl)
        have e2 := e2 38 rfl
        obtain rfl : v2 = (.pointer (some ⟨h, 0, none⟩)) := s2
        clear y2
        clear hp hb
        have hh := (HXA.out.trans hx (fun _ h => h.elim)).blk HR1.out.hh (fun h => h)
        have c0 := (blk_cell hh 0).trans rfl
        have hhl := lt_of_blk hh
        refine wantL rfl ⟨.slice (some ⟨g, 0, none⟩) l.length cm, w1, ?_, Ex.refl _ _, rfl⟩
        go_simp
      · intro o ho ρ yl w1 hx hc hf hgl hp hb
        simp only [List.getElem?_toArray, List.getElem?_cons_succ, List.getElem?_cons_zero, Option.some.injEq] at ho
        subst ho
        have hx := ((Ex.refl (fun _ => False) wA).drew).trans hx (fun _ h => h.elim)
        have b8 := hb 8 (by kernel_rfl)
        clear hp hb
        refine wantL rfl ⟨.int .i64 i, w1, ?_, Ex.refl _ _, rfl⟩
        go_simp
      · intro o ho ρ yl w1 hx hc hf hgl hp hb
        simp only [List.getElem?_toArray, List.getElem?_cons_succ, List.getElem?_cons_zero, Option.some.injEq] at ho
        subst ho
        have hx := ((Ex.refl (fun _ => False) wA).drew).trans hx (fun _ h => h.elim)
        have b5 := hb 5 (by kernel_rfl)
        clear hp hb
        have hb := (HXA.out.trans hx (fun _ h => h.elim)).blk HB1'.out (fun h => h)
        have h0 := (blk_cell hb 0).trans rfl
        have h1 := (blk_cell hb 1).trans rfl
        have h2 := (blk_cell hb 2).trans rfl
        have h3 := (blk_cell hb 3).trans rfl
        have h4 := (blk_cell hb 4).trans rfl
        have hbl := lt_of_blk hb
        refine wantL rfl ⟨.agg #[.int .u8 y.f0, .int .i64 y.f1, .string y.f2, .slice B y.f3.length c2, .int .i64 y.f4], w1, ?_, Ex.refl _ _, rfl⟩
        go_simp
    · intro i hil
      exact absurd hil (by simp)
    · intro xs w1 hx hs KQ hKK
      have s0 : xs 0 = (.pointer (some ⟨h, 0, none⟩)) := hs 0 (by omega)
      have s1 : xs 1 = (.pointer (some ⟨h, 0, none⟩)) := hs 1 (by omega)
      have s2 : xs 2 = (.pointer (some ⟨h, 0, none⟩)) := hs 2 (by omega)
      have s3 : xs 3 = (.slice (some ⟨g, 0, none⟩) l.length cm) := hs 3 (by omega)
      have s4 : xs 4 = (.int .i64 i) := hs 4 (by omega)
      have s5 : xs 5 = (.agg #[.int .u8 y.f0, .int .i64 y.f1, .string y.f2, .slice B y.f3.length c2, .int .i64 y.f4]) := hs 5 (by omega)
      clear hs
      simp only [putSlots, dstOf, List.getElem?_toArray, List.getElem?_cons_succ, List.getElem?_cons_zero, Option.bind_some, List.setIfInBounds_toArray, List.set_cons_zero, List.set_cons_succ, List.drop_succ_cons, List.drop_zero]
      rw [s0, s1, s2, s3, s4, s5]
      clear s0 s1 s2 s3 s4 s5
      have HX3 := Aside0.mk (HXA.out.trans hx (fun _ h => h.elim))
      have hcs3 := HX3.out.blk HCS.out (fun h => h)
      have hg3 := lt_of_blk hcs3
      have h5 : w1.cell? ⟨g, i * 10 + 5, none⟩ = some (.int .u8 p.v.f0) := (HX3.out.cell (lt_of_blk HCS.out) (fun h => h) _).trans (HPC.out 5 _ rfl)
      have f5 := blk_frozen hcs3 (i * 10 + 5)
      have h6 : w1.cell? ⟨g, i * 10 + 6, none⟩ = some (.int .i64 p.v.f1) := (HX3.out.cell (lt_of_blk HCS.out) (fun h => h) _).trans (HPC.out 6 _ rfl)
      have f6 := blk_frozen hcs3 (i * 10 + 6)
      have h7 : w1.cell? ⟨g, i * 10 + 7, none⟩ = some (.string p.v.f2) := (HX3.out.cell (lt_of_blk HCS.out) (fun h => h) _).trans (HPC.out 7 _ rfl)
      have f7 := blk_frozen hcs3 (i * 10 + 7)
      have h8 : w1.cell? ⟨g, i * 10 + 8, none⟩ = some (.slice p.B p.v.f3.length p.d) := (HX3.out.cell (lt_of_blk HCS.out) (fun h => h) _).trans (HPC.out 8 _ rfl)
      have f8 := blk_frozen hcs3 (i * 10 + 8)
      have h9 : w1.cell? ⟨g, i * 10 + 9, none⟩ = some (.int .i64 p.v.f4) := (HX3.out.cell (lt_of_blk HCS.out) (fun h => h) _).trans (HPC.out 9 _ rfl)
      have f9 := blk_frozen hcs3 (i * 10 + 9)
      have HBO3 := Aside0.mk (hx.blk HBO.out (fun h => h))
      clear hx
      go_upto_region 7 with (fail)
      clear h5 h6 h7 h8 h9 f5 f6 f7 f8 f9 hg3 hcs3
      have hown := (((((mine_ex0 HR1.out.own HX3.out).stored (i * 10 + 5) (.int .u8 y.f0)).1.stored (i * 10 + 5 + 1) (.int .i64 y.f1)).1.stored (i * 10 + 5 + 2) (.string y.f2)).1.stored (i * 10 + 5 + 3) (.slice B y.f3.length c2)).1.stored (i * 10 + 5 + 4) (.int .i64 y.f4)
      have hown := hown.1
      rw [flat_set _ _ _ _ _ l i p (Pr.mk p.k y p.A p.c B c2) HAT.out.1 rfl] at hown
      have hx5 : Ex (fun b => b = g) w1 (((((w1.setCell ⟨g, i * 10 + 5, none⟩ (.int .u8 y.f0)).setCell ⟨g, i * 10 + 5 + 1, none⟩ (.int .i64 y.f1)).setCell ⟨g, i * 10 + 5 + 2, none⟩ (.string y.f2)).setCell ⟨g, i * 10 + 5 + 3, none⟩ (.slice B y.f3.length c2)).setCell ⟨g, i * 10 + 5 + 4, none⟩ (.int .i64 y.f4)) := (((((Ex.refl (fun b => b = g) w1).set (p := ⟨g, i * 10 + 5, none⟩) (.inl rfl) _).set (p := ⟨g, i * 10 + 5 + 1, none⟩) (.inl rfl) _).set (p := ⟨g, i * 10 + 5 + 2, none⟩) (.inl rfl) _).set (p := ⟨g, i * 10 + 5 + 3, none⟩) (.inl rfl) _).set (p := ⟨g, i * 10 + 5 + 4, none⟩) (.inl rfl) _
      generalize (((((w1.setCell ⟨g, i * 10 + 5, none⟩ (.int .u8 y.f0)).setCell ⟨g, i * 10 + 5 + 1, none⟩ (.int .i64 y.f1)).setCell ⟨g, i * 10 + 5 + 2, none⟩ (.string y.f2)).setCell ⟨g, i * 10 + 5 + 3, none⟩ (.slice B y.f3.length c2)).setCell ⟨g, i * 10 + 5 + 4, none⟩ (.int .i64 y.f4)) = w2 at hown hx5 ⊢
      have hgw : g < w.heap.size := mine_lt HR.out.own rfl
      have hwo := HX1.out.size
      have HOWN := Aside0.mk hown
      have HX5 := Aside0.mk hx5
      have HBO5 := Aside0.mk (hx5.blk HBO3.out (by omega))
      have HBZ := Aside0.mk (show w2.heap[w.heap.size + 1 + 1]? = some (.cells #[.int .u8 0, .int .i64 0, .string ⟨#[]⟩, .slice none 0 0, .int .i64 0] 27) from hx5.blk (HX3.out.blk HB2'.out (fun h => h)) (by omega))
      clear hown hx5
      have bc0 := (blk_cell HBZ.out 0).trans rfl
      have bf0 := blk_frozen HBZ.out 0
      have bc1 := (blk_cell HBZ.out 1).trans rfl
      have bf1 := blk_frozen HBZ.out 1
      have bc2 := (blk_cell HBZ.out 2).trans rfl
      have bf2 := blk_frozen HBZ.out 2
      have bc3 := (blk_cell HBZ.out 3).trans rfl
      have bf3 := blk_frozen HBZ.out 3
      have bc4 := (blk_cell HBZ.out 4).trans rfl
      have bf4 := blk_frozen HBZ.out 4
      have bl := lt_of_blk HBZ.out
      have o0 := (blk_cell HBO5.out 0).trans rfl
      have o1 := (blk_cell HBO5.out 1).trans rfl
      have o2 := (blk_cell HBO5.out 2).trans rfl
      have o3 := (blk_cell HBO5.out 3).trans rfl
      have o4 := (blk_cell HBO5.out 4).trans rfl
      have ol := lt_of_blk HBO5.out
      go_wp2_with fail
      refine bodyPost_ret (results_row_tmp rfl _ _ (w.heap.size + 1 + 1) 27 _ (0, 0) _ rfl (put27 HBZ.out rfl _ _ _ _ _) Try.underlying27 rfl size27) rfl ?_
      have hz : Ex (fun b => b = w.heap.size + 2) w2 _ := ex_put27 (Ex.refl (fun b => b = w.heap.size + 2) w2) (.inl rfl) (.int .u8 p.v.f0) (.int .i64 p.v.f1) (.string p.v.f2) (.slice p.B p.v.f3.length p.d) (.int .i64 p.v.f4)
      have hxw : Ex (fun b => b = h ∨ some b = (Value.slice (some ⟨g, 0, none⟩) l.length cm).ownBlock) w _ := (((HX1.out.trans HX3.out (fun _ h => h.elim)).mono (fun _ h => h.elim)).trans HX5.out (fun b hb => .inl (.inr (by rw [hb]; rfl)))).trans hz (fun b hb => .inr (by omega))
      have hne := HR.out.ne
      have hgh : h ≠ g := fun e => hne (by rw [e]; rfl)
      refine ⟨hxw, .inr ⟨i, p, HAT.out, rfl, ⟨hz.blk (HX5.out.blk (HX3.out.blk HR1.out.hh (fun h => h)) hgh) (by omega), ?_, ?_, hne⟩⟩⟩
      · rw [List.length_set]
        exact mine_ex HOWN.out hz (fun b hb e => by have : b = g := by { injection e }; omega)
      · intro q hq
        have hs : ∀ b, ok b → ¬ (b = h ∨ some b = (Value.slice (some ⟨g, 0, none⟩) l.length cm).ownBlock) := fun b hb hs => by
          have h1 := HK.out b hb
          rcases hs with hs | hs
          · have := HBH.out; omega
          · have := mine_base HR.out.own hs; omega
        rcases List.mem_or_eq_of_mem_set hq with h3 | rfl
        · exact (HR.out.good q h3).ex hxw hs
        · have h4 := (HR.out.good p (List.mem_of_getElem? HAT.out.1)).ex hxw hs
          have h5 := HP.out.ex hxw hs
          exact ⟨h4.lk, h5.lv, h4.fk, h5.fv, h4.sk⟩
end Go.Proofs.Ythkemcekcfccpaa.PBrandCompares
end
section
namespace Go.Proofs.Ythkemcekcfccpaa.PBrandCompares
open Go.RowKit Go.Proofs.YthkemcekcfccpaaW.PrintWords Go.Proofs.YthkemcekcfccpaaW.PrintLast Go.Proofs.YthkemcekcfccpaaW.PrintMore
open Go.Proofs.Ythkemcekcfccpaa.GBrandCompares
set_option linter.unusedVariables false
set_option linter.unusedSimpArgs false
theorem at_append {ops : Array Oper} {Q : Exit → Act → World → Prop} {a : Act} {o : Oper} {rest : List Oper} {w w' : World} (hgd : o.guard = none) (s x : Operand) (ho : o.op = .call { callee := .builtin .append, args := #[s, x], argTypes := #[53, 53] })
    (u y v : Value) (hs : a.eval s = u) (hx : a.eval x = y) (hr : (Builtin.append_ #[53, 53] o.type #[u, y]).run Try.prog w = .ok v w') (hK : wpList Try.prog ops Q rest (a.put o.dst v) w') : wpList Try.prog ops Q (o :: rest) a w := by
  refine wpList_plain hgd fun K hK' => ?_
  unfold Oper.wp execOp
  simp only [ho, resolve, invoke, builtin, Sem.run_bind, Sem.run_pure, Result.andThen_ok, List.map_toArray, List.map_cons, List.map_nil, hs, hx, hr]
  exact hK' _ _ hK
theorem run_app0 {w : World} {base : Nat} {u : Value} {n : Nat} {xs : List Value} (ty : TypeId) (hown : w.ownsRow base 88 10 u n xs) : (Builtin.append_ #[53, 53] ty #[u, .slice none 0 0]).run Try.prog w = .ok u w := by
  obtain ⟨i0, hi, hz0, hz1, hz2⟩ := info_parts info88
  rcases hown.2 with ⟨rfl, hn⟩ | ⟨g, cap, cur, rfl, _, _, hnc, _⟩
  · simp [Builtin.append_, run_underlying Try.underlying53, sizeOf, typeInfo, hi, Builtin.lenOf, Builtin.firstCells]
  · simp [Builtin.append_, run_underlying Try.underlying53, sizeOf, typeInfo, hi, Builtin.lenOf, Builtin.firstCells, hnc, storeCells]
theorem run_row {w : World} {base b2 : Nat} {u v : Value} {n : Nat} {xs : List Value} {l : List Pr} (ty : TypeId) (hown : w.ownsRow base 88 10 u n xs) (hsrc : w.ownsRow b2 88 10 v l.length (l.flatMap Pr.cells)) (hn : n + l.length < 2000000) (hbase : base ≤ w.heap.size) :
    ∃ v' w', (Builtin.append_ #[53, 53] ty #[u, v]).run Try.prog w = .ok v' w' ∧ w'.ownsRow base 88 10 v' (n + l.length) (xs ++ l.flatMap Pr.cells) ∧ Ex (fun b => some b = u.ownBlock) w w' ∧ (v'.ownBlock = u.ownBlock ∨ v'.ownBlock = some w.heap.size) := by
  rcases hsrc.2 with ⟨rfl, h0⟩ | ⟨g, cap, cur, rfl, _, hg, hnc, _, hcs, hct⟩
  · have : l = [] := List.length_eq_zero_iff.1 h0
    subst this
    exact ⟨u, w, run_app0 ty hown, by simpa using hown, Ex.refl _ _, .inl rfl⟩
  · refine run_app ty hown ⟨g, 0, none⟩ (flat_len l) (fun j q hq => ?_) (flat_one l) hn hbase
    rw [add_plain]
    first | rw [Nat.zero_add] | skip
    rw [blk_cell hg]
    have hj : j < l.length * 10 := by have := (List.getElem?_eq_some_iff.1 hq).1; rw [flat_len] at this; exact this
    rw [← hct, List.getElem?_take, if_pos hj] at hq
    simpa using hq
set_option maxHeartbeats 1000000 in
set_option maxRecDepth 100000 in
theorem rcopy_calls {ok : Nat → Prop} {base h : Nat} {u : Value} {l : List Pr} (w : World) (hr : RT w base ok h u l) (hl : l.length < 1000000) (hb : base ≤ w.heap.size) (hok : ∀ b, ok b → b < base) :
    Calls Try.prog 21 #[.pointer (some ⟨h, 0, none⟩)] w fun e w' => ∃ h' u', e = .returned (.pointer (some ⟨h', 0, none⟩)) ∧ RT w' base ok h' u' l ∧ w.heap.size ≤ h' ∧ (∀ b, u'.ownBlock = some b → w.heap.size ≤ b) ∧ Ex (fun _ => False) w w' := by
  obtain ⟨v, w1, hrun, hown, hx, hat⟩ := run_row (u := .slice none 0 0) (n := 0) (xs := []) 53 (World.ownsRow_nil w base 88 10) hr.own (by omega) hb
  simp only [Nat.zero_add, List.nil_append] at hown
  have hx : Ex (fun _ => False) w w1 := hx.mono (fun b hb => by simp [Value.ownBlock] at hb)
  have hat : ∀ b, v.ownBlock = some b → b = w.heap.size := fun b hb => by
    rcases hat with e | e
    · rw [e] at hb; simp [Value.ownBlock] at hb
    · rw [e] at hb; injection hb with hb; exact hb.symm
  obtain ⟨M, c, hv, _, _⟩ := own_pairs hown
  have HR := Aside0.mk hr
  have HO := Aside0.mk hown
  have HX := Aside0.mk hx
  have HAT := Aside0.mk hat
  have HV := Aside0.mk hv
  have hh := hr.hh
  have c0 := (blk_cell hh 0).trans rfl
  have hhl := lt_of_blk hh
  clear hr hown hx hat hh
  rw [hv] at hrun
  clear hv
  have HRUN := Aside0.mk hrun
  clear hrun
  go_enter Try.func21, Try.ntmps21
  go_wp2_with (at_builtin; refine at_append rfl _ _ rfl (.slice none 0 0) u _ rfl rfl HRUN.out ?_)
  go_ret
  have ho := HO.out
  have ha := HAT.out
  rw [HV.out] at ho ha
  have hx2 := HX.out.alloc (.cells #[.slice M l.length c] 55)
  refine ⟨_, _, rfl, ⟨blk_new1 _ _, mine_ex0 ho ((Ex.refl (fun _ => False) w1).alloc _), fun p hp => (HR.out.good p hp).ex hx2 (fun _ _ h => h), fun e => ?_⟩, HX.out.size, fun b hb => Nat.le_of_eq (ha b hb).symm, hx2⟩
  have := mine_lt ho e
  omega
abbrev RDROP (x : S27) (A : Option Addr) (c h : Nat) (w : World) (R : Ending → World → Prop) : Prop :=
  Calls Try.prog 47 #[.pointer (some ⟨h, 0, none⟩), .agg #[.int .u8 x.f0, .int .i64 x.f1, .string x.f2, .slice A x.f3.length c, .int .i64 x.f4]] w R
def RDropS (base : Nat) (ok : Nat → Prop) (h : Nat) (u : Value) (l : List Pr) (x : S27) (w : World) (e : Ending) (w' : World) : Prop :=
  Ex (fun b => b = h) w w' ∧ ((NoP l x ∧ e = .returned (.bool false) ∧ RT w' base ok h u l) ∨ ∃ (i : Nat) (p : Pr) (u' : Value), AtP l x i p ∧ e = .returned (.bool true) ∧ RT w' base ok h u' (l.eraseIdx i) ∧ (u'.ownBlock = u.ownBlock ∨ ∀ b, u'.ownBlock = some b → w.heap.size ≤ b))
set_option maxHeartbeats 1000000 in
set_option maxRecDepth 100000 in
theorem rdrop_calls {ok okx : Nat → Prop} {base h : Nat} {u : Value} {l : List Pr} (x : S27) (A : Option Addr) (c : Nat) (w : World) (hr : RT w base ok h u l) (hl : l.length < 1000000) (hb : base ≤ w.heap.size) (hbh : base ≤ h) (hok : ∀ b, ok b → b < base) (hc : x.f3.length ≤ c) (hF : Kd.F k27 w okx A x.f3.length x.f3) :
    RDROP x A c h w (RDropS base ok h u l x w) := by
  have HR := Aside0.mk hr
  have HF := Aside0.mk hF
  have HC := Aside0.mk hc
  have HB := Aside0.mk (And.intro hb (And.intro hbh hok))
  have HX0 := Aside0.mk ((Ex.refl (fun _ => False) w).alloc (.cells #[.int .u8 x.f0, .int .i64 x.f1, .string x.f2, .slice A x.f3.length c, .int .i64 x.f4] 27))
  have hhl0 := lt_of_blk hr.hh
  clear hr hF hc hb hbh hok
  unfold RDROP
  go_enter Try.func47, Try.ntmps47
  go_wp2_with fail
  refine (at_calls x A c _ (HR.out.ex0 HX0.out) hl HC.out (ex_F HX0.out HF.out (fun _ _ h => h))).mono ?_
  rintro e w1 ⟨rfl, hx⟩
  have HX1 := Aside0.mk (HX0.out.trans hx (fun _ h => h.elim))
  have HR1 := Aside0.mk (HR.out.ex0 HX1.out)
  clear hx
  rcases posP_cases l x with ⟨hp, hn⟩ | ⟨i, p, hp, hil, hat⟩
  · rw [hp]
    have HN := Aside0.mk hn
    clear hn hp
    go_wp2_with fail
    go_ret
    exact ⟨HX1.out.mono (fun _ h => h.elim), .inl ⟨HN.out, rfl, HR1.out⟩⟩
  · rw [hp]
    obtain ⟨M, cm, hu, hcm, hcells⟩ := own_pairs HR1.out.own
    subst hu
    obtain ⟨g, cs, hM, _, hgb, hcs, hsz, hpc⟩ := hcells i p hat.1
    subst hM
    have hii : (i : Int) < (l.length : Int) := by omega
    have hi0 : (0 : Int) ≤ (i : Int) := by omega
    have hin : ¬ (i : Int) < 0 := by omega
    have hi100 : i < 1000000 := by omega
    have hicm : i ≤ cm := by omega
    have hh := HR1.out.hh
    have c0 := (blk_cell hh 0).trans rfl
    have hhl := lt_of_blk hh
    have hsrc : ∀ (q : Nat) (z : Value), (l.flatMap Pr.cells)[q]? = some z → w1.cell? ⟨g, q, none⟩ = some z := fun q z hq => by
      have hq2 : q < l.length * 10 := by have := (List.getElem?_eq_some_iff.1 hq).1; rw [flat_len] at this; exact this
      rw [HR1.out.own.cellAt q hq2]
      exact hq
    have hb1 : base ≤ w1.heap.size := Nat.le_trans HB.out.1 HX1.out.size
    obtain ⟨v1, w2, hrun1, hown1, hx1, hat1⟩ := run_app (c := cm) 53 (World.ownsRow_nil w1 base 88 10) ⟨g, 0, none⟩ (m := i) (news := (l.take i).flatMap Pr.cells) (by rw [flat_len, List.length_take]; omega)
      (fun q z hq => by
        rw [add_plain]
        first | rw [Nat.zero_add] | skip
        refine hsrc q z ?_
        rw [← List.take_append_drop i l, List.flatMap_append, List.getElem?_append_left (List.getElem?_eq_some_iff.1 hq).1]
        exact hq) (flat_one _) (by omega) hb1
    have hx1 : Ex (fun _ => False) w1 w2 := hx1.mono (fun b hb => by simp [Value.ownBlock] at hb)
    have hat1 : ∀ b, v1.ownBlock = some b → b = w1.heap.size := fun b hb => by
      rcases hat1 with e | e
      · rw [e] at hb; simp [Value.ownBlock] at hb
      · rw [e] at hb; injection hb with hb; exact hb.symm
    simp only [Nat.zero_add, List.nil_append] at hown1
    have hli : (l.take i).length = i := by rw [List.length_take]; omega
    obtain ⟨M1, c1, hv1, _, _⟩ := own_pairs (l := l.take i) (u := v1) (base := base) (w := w2) (by rw [hli]; exact hown1)
    rw [hli] at hv1
    subst hv1
    have hh2 := hx1.blk hh (fun h => h)
    have c02 := (blk_cell hh2 0).trans rfl
    have hhl2 := lt_of_blk hh2
    have HAT := Aside0.mk hat
    have HRUN1 := Aside0.mk hrun1
    have hi1 : (i : Int) + 1 ≤ (l.length : Int) := by omega
    have hi2 : (i : Int) + 1 ≤ (cm : Int) := by omega
    clear hat hp hpc hcells hh hh2 hrun1
    have hsrc2 : ∀ (q : Nat) (z : Value), (l.flatMap Pr.cells)[q]? = some z → w2.cell? ⟨g, q, none⟩ = some z := fun q z hq => (hx1.cell (lt_of_blk hcs) (fun h => h) _).trans (hsrc q z hq)
    have hdl : (l.drop (i + 1)).length = l.length - (i + 1) := by rw [List.length_drop]
    obtain ⟨ad, had, hnews⟩ : ∃ ad : Addr, (if cm = i + 1 then some (⟨g, 0, none⟩ : Addr) else some ⟨g, (i + 1) * 10, none⟩) = some ad ∧ ∀ (q : Nat) (z : Value), ((l.drop (i + 1)).flatMap Pr.cells)[q]? = some z → w2.cell? (ad.add q) = some z := by
      by_cases e : cm = i + 1
      · refine ⟨_, if_pos e, fun q z hq => ?_⟩
        rw [List.drop_eq_nil_of_le (by omega)] at hq
        simp at hq
      · refine ⟨_, if_neg e, fun q z hq => ?_⟩
        rw [show (Addr.add ⟨g, (i + 1) * 10, none⟩ q) = ⟨g, (i + 1) * 10 + q, none⟩ from by simp [Addr.add]]
        refine hsrc2 ((i + 1) * 10 + q) z ?_
        have hl10 : ((l.take (i + 1)).flatMap Pr.cells).length = (i + 1) * 10 := by rw [flat_len, List.length_take, Nat.min_eq_left (by omega)]
        rw [← List.take_append_drop (i + 1) l, List.flatMap_append, List.getElem?_append_right (by rw [hl10]; omega), hl10, Nat.add_sub_cancel_left]
        exact hq
    obtain ⟨v3, w3, hrun2, hown3, hx2, hat3⟩ := run_app (c := cm - (i + 1)) 53 hown1 ad (m := l.length - (i + 1)) (news := (l.drop (i + 1)).flatMap Pr.cells) (by rw [flat_len, hdl]) hnews (flat_one _) (by omega) (Nat.le_trans hb1 hx1.size)
    rw [← had] at hrun2
    clear had hnews
    have her : l.eraseIdx i = l.take i ++ l.drop (i + 1) := List.eraseIdx_eq_take_drop_succ l i
    have hel : (l.eraseIdx i).length = i + (l.length - (i + 1)) := by rw [her, List.length_append, hli, hdl]
    have hown3 : w3.ownsRow base 88 10 v3 (l.eraseIdx i).length ((l.eraseIdx i).flatMap Pr.cells) := by rw [hel, her, List.flatMap_append]; exact hown3
    have hx2 : Ex (fun _ => False) w1 w3 := (hx1.trans hx2 (fun b hb => .inr (Nat.le_of_eq (hat1 b hb.symm).symm)))
    have hat3 : ∀ b, v3.ownBlock = some b → w1.heap.size ≤ b := fun b hb => by
      rcases hat3 with e | e
      · rw [e] at hb; exact Nat.le_of_eq (hat1 b hb).symm
      · rw [e] at hb; injection hb with hb; have := hx1.size; omega
    obtain ⟨M3, c3, hv3, _, _⟩ := own_pairs hown3
    subst hv3
    have hh3 := hx2.blk HR1.out.hh (fun h => h)
    have c03 := (blk_cell hh3 0).trans rfl
    have f03 := blk_frozen hh3 0
    have hhl3 := lt_of_blk hh3
    have HO3 := Aside0.mk hown3
    have HX2 := Aside0.mk hx2
    have HAT3 := Aside0.mk hat3
    have HH3 := Aside0.mk hh3
    have HRUN2 := Aside0.mk hrun2
    clear hown3 hx2 hat3 hh3 hrun2 her hel hown1 hx1 hat1 hsrc hsrc2 hdl hcs
    have HEND := Aside0.mk (show Ex (fun b => b = h) w (w3.setCell ⟨h, 0, none⟩ (.slice M3 (l.eraseIdx i).length c3)) ∧ RT (w3.setCell ⟨h, 0, none⟩ (.slice M3 (l.eraseIdx i).length c3)) base ok h (.slice M3 (l.eraseIdx i).length c3) (l.eraseIdx i) from by
      have hx3 : Ex (fun b => b = h) w3 (w3.setCell ⟨h, 0, none⟩ (.slice M3 (l.eraseIdx i).length c3)) := (Ex.refl (fun b => b = h) w3).set (p := ⟨h, 0, none⟩) (.inl rfl) (.slice M3 (l.eraseIdx i).length c3)
      have hne : ∀ b, b = h → some b ≠ (Value.slice M3 (l.eraseIdx i).length c3).ownBlock := fun b hb e => by
        have := HAT3.out b e.symm
        have := HX1.out.size
        omega
      have hxw := ((HX1.out.trans HX2.out (fun _ h => h.elim)).mono (S2 := fun b => b = h) (fun _ h => h.elim)).trans hx3 (fun b hb => .inl hb)
      refine ⟨hxw, blk_put HH3.out 0 _ rfl, mine_ex HO3.out hx3 hne, fun q hq => ?_, hne h rfl⟩
      refine (HR.out.good q (List.mem_of_mem_eraseIdx hq)).ex hxw (fun b hb e => ?_)
      have := HB.out.2.2 b hb
      have := HB.out.2.1
      omega)
    have HLT := Aside0.mk (show ∀ b, (Value.slice M3 (l.eraseIdx i).length c3).ownBlock = some b → w.heap.size ≤ b from fun b hb => Nat.le_trans HX1.out.size (HAT3.out b hb))
    go_upto_region 6 with (at_builtin; refine at_append rfl _ _ rfl (.slice none 0 0) _ _ rfl rfl HRUN1.out ?_)
    clear HRUN1
    go_wp2_with (at_builtin; refine at_append rfl _ _ rfl (.slice M1 i c1) _ _ rfl rfl HRUN2.out ?_)
    all_goals go_ret
    all_goals exact ⟨HEND.out.1, .inr ⟨i, p, _, HAT.out, rfl, HEND.out.2, .inr HLT.out⟩⟩
end Go.Proofs.Ythkemcekcfccpaa.PBrandCompares
end
section
namespace Go.Proofs.Ythkemcekcfccpaa.PBrandCompares
open Go.RowKit Go.Proofs.YthkemcekcfccpaaW.PrintWords Go.Proofs.YthkemcekcfccpaaW.PrintLast Go.Proofs.YthkemcekcfccpaaW.PrintMore
open Go.Proofs.Ythkemcekcfccpaa.GBrandCompares
set_option linter.unusedVariables false
set_option linter.unusedSimpArgs false
theorem run_del {w : World} {r clock : Nat} {es : Array MapEntry} {ms : List Mk} {a : Mk} (hb : w.heap[r]? = some (.map es clock)) (ha : Key a) (hm : ∀ m ∈ ms, Key m) (hl : es.toList.map (·.key) = ms.map Mk.val) (ty : TypeId) :
    (Builtin.delete_ #[63, 45] ty #[.map (some r), a.val]).run Try.prog w = .ok (.tuple #[]) (setB w r (.map (match posMk a ms with | none => es | some j => es.eraseIdxIfInBounds j) clock)) := by
  cases hp : posMk a ms with
  | none =>
    simp [Builtin.delete_, run_underlying Try.underlying63, Go.MapKept.run_getObj_map hb, check_ok a ha, find_key a ha ms es.toList _ hm hl, hp, Go.MapKept.run_setObj_map _ hb, Result.andThen, setB]
  | some j =>
    have hj := posMk_lt hp
    have hle : ms.length = es.toList.length := by have := congrArg List.length hl; simpa using this.symm
    have hlt : j < es.size := by rw [hle] at hj; simpa using hj
    simp [Builtin.delete_, run_underlying Try.underlying63, Go.MapKept.run_getObj_map hb, check_ok a ha, find_key a ha ms es.toList _ hm hl, hp, Go.MapKept.run_setObj_map _ hb, Result.andThen, setB, hlt]
theorem find_num (k : Int) : ∀ (l : List MapEntry) (i j : Nat) (e : MapEntry), (∀ e ∈ l, ∃ n : Int, e.key = .int .i64 n) → l[j]? = some e → e.key = .int .i64 k → (∀ j' e', j' < j → l[j']? = some e' → e'.key ≠ .int .i64 k) → Instr.findNow (.int .i64) (.int .i64 k) l i = some (some (i + j, e.val))
  | [], _, _, _, _, h, _, _ => by simp at h
  | a :: l, i, 0, e, _, h, hk, _ => by
    simp at h
    subst h
    unfold Instr.findNow
    rw [hk]
    simp [Instr.sameNow]
  | a :: l, i, j + 1, e, hl, h, hk, hn => by
    obtain ⟨n, ha⟩ := hl a (.head _)
    have hne : n ≠ k := fun e' => hn 0 a (by omega) rfl (by rw [ha, e'])
    unfold Instr.findNow
    rw [ha]
    simp only [Instr.sameNow, if_true]
    rw [show ((k == n) : Bool) = false by simpa using Ne.symm hne]
    have := find_num k l (i + 1) j e (fun e he => hl e (.tail _ he)) (by simpa using h) hk (fun j' e' hj he => hn (j' + 1) e' (by omega) (by simpa using he))
    simp only [this]
    congr 3
    omega
theorem run_undel {w : World} {r clock : Nat} {es : Array MapEntry} {rows : List Row} (hb : w.heap[r]? = some (.map es clock)) (hes : es.toList = rows.map Row.e2) (k : Int) (hn : ∀ r ∈ rows, (r.n : Int) ≠ k) (ty : TypeId) :
    (Builtin.delete_ #[64, 3] ty #[.map (some r), .int .i64 k]).run Try.prog w = .ok (.tuple #[]) (setB w r (.map es clock)) := by
  have hc : ∀ e, (Instr.checkKey e 10000 3 (.int .i64 k)).run Try.prog w = .ok () w := fun e => check_int Try.underlying3 e 9999 _ w
  have hf : (Instr.findKey 3 (.int .i64 k) es.toList).run Try.prog w = .ok none w := Go.MapKept.run_findKey Try.underlying3 (find_order _ _ _ (by
    rw [hes]
    intro e he
    obtain ⟨r, hr, rfl⟩ := List.mem_map.1 he
    exact ⟨r.n, rfl, hn r hr⟩))
  simp [Builtin.delete_, run_underlying Try.underlying64, Go.MapKept.run_getObj_map hb, hc, hf, Go.MapKept.run_setObj_map _ hb, Result.andThen, setB]
theorem run_unnum {w : World} {r clock : Nat} {es : Array MapEntry} {rows : List Row} (hb : w.heap[r]? = some (.map es clock)) (hes : es.toList = rows.map Row.e2) {j : Nat} {q : Row} (hq : rows[j]? = some q) (hp : rows.Pairwise (fun r s => r.n ≠ s.n)) (ty : TypeId) :
    (Builtin.delete_ #[64, 3] ty #[.map (some r), .int .i64 q.n]).run Try.prog w = .ok (.tuple #[]) (setB w r (.map (es.eraseIdxIfInBounds j) clock)) := by
  have hc : ∀ e, (Instr.checkKey e 10000 3 (.int .i64 q.n)).run Try.prog w = .ok () w := fun e => check_int Try.underlying3 e 9999 _ w
  have hjl : j < rows.length := (List.getElem?_eq_some_iff.1 hq).1
  have hlt : j < es.size := by have := congrArg List.length hes; simp at this; omega
  have hf : (Instr.findKey 3 (.int .i64 q.n) es.toList).run Try.prog w = .ok (some (0 + j, q.e2.val)) w := Go.MapKept.run_findKey Try.underlying3 (find_num _ _ 0 j q.e2 (by
    rw [hes]
    intro e he
    obtain ⟨r, hr, rfl⟩ := List.mem_map.1 he
    exact ⟨r.n, rfl⟩) (by rw [hes, List.getElem?_map, hq]; rfl) rfl (by
    rw [hes]
    intro j' e' hj he
    rw [List.getElem?_map] at he
    cases hr : rows[j']? with
    | none => rw [hr] at he; simp at he
    | some s =>
      rw [hr] at he
      obtain rfl : s.e2 = e' := by simpa using he
      rw [List.pairwise_iff_getElem] at hp
      obtain ⟨h1, h2⟩ := List.getElem?_eq_some_iff.1 hr
      obtain ⟨h3, h4⟩ := List.getElem?_eq_some_iff.1 hq
      have := hp j' j h1 h3 hj
      rw [h2, h4] at this
      intro e
      apply this
      have e3 : (s.n : Int) = q.n := by simpa [Row.e2] using e
      omega))
  rw [Nat.zero_add] at hf
  simp [Builtin.delete_, run_underlying Try.underlying64, Go.MapKept.run_getObj_map hb, hc, hf, Go.MapKept.run_setObj_map _ hb, Result.andThen, setB, hlt]
abbrev DROP (x : S27) (A : Option Addr) (c g : Nat) (w : World) (R : Ending → World → Prop) : Prop :=
  Calls Try.prog 24 #[.pointer (some ⟨g, 0, none⟩), .agg #[.int .u8 x.f0, .int .i64 x.f1, .string x.f2, .slice A x.f3.length c, .int .i64 x.f4]] w R
set_option maxHeartbeats 400000 in
theorem drop_err (x : S27) (A : Option Addr) (c g : Nat) (w : World) (E : Int) (hE : (E != 0) = true)
    (hfind : Calls Try.prog 39 #[.pointer (some ⟨g, 0, none⟩), .agg #[.int .u8 x.f0, .int .i64 x.f1, .string x.f2, .slice A x.f3.length c, .int .i64 x.f4]] (w.alloc (.cells #[.int .u8 x.f0, .int .i64 x.f1, .string x.f2, .slice A x.f3.length c, .int .i64 x.f4] 27)) fun e w' => e = .returned (.tuple #[.nilIface, .int .i64 E]) ∧ Ex (fun _ => False) (w.alloc (.cells #[.int .u8 x.f0, .int .i64 x.f1, .string x.f2, .slice A x.f3.length c, .int .i64 x.f4] 27)) w') :
    DROP x A c g w fun e w' => e = .returned (.tuple #[.bool false, .int .i64 E]) ∧ Ex (fun _ => False) w w' := by
  have HF := Aside0.mk hfind
  clear hfind
  unfold DROP
  go_enter Try.func24, Try.ntmps24
  go_wp2_with fail
  refine HF.out.mono ?_
  rintro e w1 ⟨rfl, hx1⟩
  have HX1 := Aside0.mk (((Ex.refl (fun _ => False) w).alloc _).trans hx1 (fun _ h => h.elim))
  clear hx1
  go_wp2_with fail
  go_ret2
  exact ⟨rfl, HX1.out⟩
set_option maxHeartbeats 1000000 in
set_option maxRecDepth 100000 in
theorem drop_at (x v kx : S27) (A B C : Option Addr) (c d ck g mb ob : Nat) (n : Int) (had : Bool) (b4 : Value) (w : World) (ok : Nat → Prop) (h : w.heap[g]? = some (.cells #[.map (some mb), .map (some ob), b4] 66 (0, 0))) (hF : Kd.F k27 w ok A x.f3.length x.f3) (hm : mayV x = true)
    (m : Mk) (hmk : ∀ m2, MarkOf x m2 → m2 = m) (hkey : Key m) (e1 e2 o1 o2 : Obj) (h1 : w.heap[mb]? = some e1) (h2 : w.heap[ob]? = some e2) (hne : mb ≠ ob) (hgm : g ≠ mb)
    (hlk : ∀ w1, Ex (fun _ => False) w w1 → (Instr.lookup 63 (.map (some mb)) m.val true).run Try.prog w1 = .ok (.tuple #[.agg #[.int .u8 kx.f0, .int .i64 kx.f1, .string kx.f2, .slice C kx.f3.length ck, .int .i64 kx.f4, .int .u8 v.f0, .int .i64 v.f1, .string v.f2, .slice B v.f3.length d, .int .i64 v.f4, .int .i64 n], .bool had]) w1)
    (hd1 : ∀ w1 ty, w1.heap[mb]? = some e1 → (Builtin.delete_ #[63, 45] ty #[.map (some mb), m.val]).run Try.prog w1 = .ok (.tuple #[]) (setB w1 mb o1))
    (hd2 : ∀ w1 ty, w1.heap[ob]? = some e2 → (Builtin.delete_ #[64, 3] ty #[.map (some ob), .int .i64 n]).run Try.prog w1 = .ok (.tuple #[]) (setB w1 ob o2)) :
    DROP x A c g w fun e w' => e = .returned (.tuple #[.bool had, .int .i64 0]) ∧ w'.heap[mb]? = some o1 ∧ w'.heap[ob]? = some o2 ∧ Ex (fun b => b = mb ∨ b = ob) w w' := by
  have HG := Aside0.mk h
  have HF := Aside0.mk hF
  have HM := Aside0.mk hm
  have HMK := Aside0.mk hmk
  have HKEY := Aside0.mk hkey
  have HLK := Aside0.mk hlk
  have HD1 := Aside0.mk hd1
  have HD2 := Aside0.mk hd2
  have H1 := Aside0.mk h1
  have H2 := Aside0.mk h2
  have HNE := Aside0.mk (And.intro hne hgm)
  clear h hF hm hmk hkey hlk hd1 hd2 h1 h2 hne hgm
  unfold DROP
  go_enter Try.func24, Try.ntmps24
  go_wp2_with fail
  refine (find_key' x A c g mb _ _ _ ok (blk_alloc HG.out _) (Kd.F_alloc HF.out _) HM.out).mono ?_
  rintro e w1 ⟨m2, h1, h2, hx1, rfl⟩
  have hm2 := HMK.out m2 h1
  subst hm2
  have hk' := HKEY.out.1
  rw [hk']
  have HX1 := Aside0.mk (((Ex.refl (fun _ => False) w).alloc _).trans hx1 (fun _ h => h.elim))
  have HG1 := Aside0.mk (HX1.out.blk HG.out (fun h => h))
  have hlk' := HLK.out w1 HX1.out
  obtain ⟨t1, u1, hu1⟩ := m2.val_iface
  rw [hu1]
  rw [hu1] at hlk'
  clear hx1 hk' h1 h2
  have gc0 := (blk_cell HG1.out 0).trans rfl
  have gc1 := (blk_cell HG1.out 1).trans rfl
  have gl := lt_of_blk HG1.out
  have hml := lt_of_blk (HX1.out.blk H1.out (fun h => h))
  have hd1' := HD1.out (w1.alloc (.cells #[.int .u8 kx.f0, .int .i64 kx.f1, .string kx.f2, .slice C kx.f3.length ck, .int .i64 kx.f4, .int .u8 v.f0, .int .i64 v.f1, .string v.f2, .slice B v.f3.length d, .int .i64 v.f4, .int .i64 n] 78)) 0 (blk_alloc (HX1.out.blk H1.out (fun h => h)) _)
  rw [hu1] at hd1'
  have hxe : Ex (fun b => b = mb ∨ b = ob) w w1 := (Ex.refl (fun b => b = mb ∨ b = ob) w).trans HX1.out (fun _ h => h.elim)
  have HX3 := Aside0.mk (ex_setB (hxe.alloc (.cells #[.int .u8 kx.f0, .int .i64 kx.f1, .string kx.f2, .slice C kx.f3.length ck, .int .i64 kx.f4, .int .u8 v.f0, .int .i64 v.f1, .string v.f2, .slice B v.f3.length d, .int .i64 v.f4, .int .i64 n] 78)) (.inl (.inl rfl)) o1)
  have HE3 := Aside0.mk (show (setB (w1.alloc (.cells #[.int .u8 kx.f0, .int .i64 kx.f1, .string kx.f2, .slice C kx.f3.length ck, .int .i64 kx.f4, .int .u8 v.f0, .int .i64 v.f1, .string v.f2, .slice B v.f3.length d, .int .i64 v.f4, .int .i64 n] 78)) mb o1).heap[w1.heap.size]? = some (.cells #[.int .u8 kx.f0, .int .i64 kx.f1, .string kx.f2, .slice C kx.f3.length ck, .int .i64 kx.f4, .int .u8 v.f0, .int .i64 v.f1, .string v.f2, .slice B v.f3.length d, .int .i64 v.f4, .int .i64 n] 78) from by rw [setB_ne _ _ _ (by omega)]; exact blk_new1 _ _)
  have HM3 := Aside0.mk (setB_blk (o' := o1) (blk_alloc (HX1.out.blk H1.out (fun h => h)) (.cells #[.int .u8 kx.f0, .int .i64 kx.f1, .string kx.f2, .slice C kx.f3.length ck, .int .i64 kx.f4, .int .u8 v.f0, .int .i64 v.f1, .string v.f2, .slice B v.f3.length d, .int .i64 v.f4, .int .i64 n] 78)))
  have HO3 := Aside0.mk (show (setB (w1.alloc (.cells #[.int .u8 kx.f0, .int .i64 kx.f1, .string kx.f2, .slice C kx.f3.length ck, .int .i64 kx.f4, .int .u8 v.f0, .int .i64 v.f1, .string v.f2, .slice B v.f3.length d, .int .i64 v.f4, .int .i64 n] 78)) mb o1).heap[ob]? = some e2 from by rw [setB_ne _ _ _ (Ne.symm HNE.out.1)]; exact blk_alloc (HX1.out.blk H2.out (fun h => h)) _)
  have HG3 := Aside0.mk (show (setB (w1.alloc (.cells #[.int .u8 kx.f0, .int .i64 kx.f1, .string kx.f2, .slice C kx.f3.length ck, .int .i64 kx.f4, .int .u8 v.f0, .int .i64 v.f1, .string v.f2, .slice B v.f3.length d, .int .i64 v.f4, .int .i64 n] 78)) mb o1).heap[g]? = some (.cells #[.map (some mb), .map (some ob), b4] 66 (0, 0)) from by rw [setB_ne _ _ _ HNE.out.2]; exact blk_alloc HG1.out _)
  clear hxe
  generalize setB (w1.alloc (.cells #[.int .u8 kx.f0, .int .i64 kx.f1, .string kx.f2, .slice C kx.f3.length ck, .int .i64 kx.f4, .int .u8 v.f0, .int .i64 v.f1, .string v.f2, .slice B v.f3.length d, .int .i64 v.f4, .int .i64 n] 78)) mb o1 = w3 at hd1' HX3 HE3 HM3 HO3 HG3
  have gc3 := (blk_cell HG3.out 1).trans rfl
  have gl3 := lt_of_blk HG3.out
  have ec3 := (blk_cell HE3.out 10).trans rfl
  have el3 := lt_of_blk HE3.out
  have hd2' := HD2.out w3.drew 0 (blk_drew HO3.out)
  have HX4 := Aside0.mk (ex_setB (HX3.out.drew) (.inl (.inr rfl)) o2)
  have HM4 := Aside0.mk (show (setB w3.drew ob o2).heap[mb]? = some o1 from by rw [setB_ne _ _ _ HNE.out.1]; exact blk_drew HM3.out)
  have HO4 := Aside0.mk (setB_blk (o' := o2) (blk_drew HO3.out))
  generalize setB w3.drew ob o2 = w4 at hd2' HX4 HM4 HO4
  go_wp2_with fail
  go_region
  all_goals go_wp2_with fail
  all_goals go_ret2
  all_goals exact ⟨rfl, HM4.out, HO4.out, HX4.out⟩
def DropS (x : S27) (g mb ob : Nat) (T : Nat → Prop) (rows : List Row) (came : Nat) (w : World) (e : Ending) (w' : World) : Prop :=
  mayV x = false ∧ e = .returned (.tuple #[.bool false, .int .i64 2]) ∧ Ex (fun _ => False) w w' ∨
  mayV x = true ∧ ¬ KeyV x ∧ e = .returned (.tuple #[.bool false, .int .i64 40]) ∧ Ex (fun _ => False) w w' ∨
  mayV x = true ∧ ∃ m, MarkOf x m ∧ Key m ∧ Ex (fun b => b = mb ∨ b = ob) w w' ∧
    ((m ∉ rows.map (·.m) ∧ e = .returned (.tuple #[.bool false, .int .i64 0]) ∧ Tab w' g mb ob T rows came) ∨ ∃ (j : Nat) (r : Row), rows[j]? = some r ∧ r.m = m ∧ e = .returned (.tuple #[.bool true, .int .i64 0]) ∧ Tab w' g mb ob T (rows.eraseIdx j) came)
theorem Tab.apart {T : Nat → Prop} {w : World} {g mb ob : Nat} {rows : List Row} {came : Nat} (h : Tab w g mb ob T rows came) : g ≠ mb ∧ g ≠ ob := by
  obtain ⟨es, c, h1, _⟩ := h.hm
  obtain ⟨es2, c2, h2, _⟩ := h.ho
  have h0 := h.hg
  constructor
  · rintro rfl; rw [h1] at h0; cases h0
  · rintro rfl; rw [h2] at h0; cases h0
theorem erase_toList (es : Array MapEntry) (j : Nat) : (es.eraseIdxIfInBounds j).toList = es.toList.eraseIdx j := by
  unfold Array.eraseIdxIfInBounds
  split
  · simp
  · rename_i h
    rw [List.eraseIdx_of_length_le (by simpa using h)]
theorem map_erase {α β : Type} (f : α → β) : ∀ (l : List α) (j : Nat), (l.map f).eraseIdx j = (l.eraseIdx j).map f
  | [], _ => rfl
  | _ :: _, 0 => rfl
  | a :: l, j + 1 => by simp [map_erase f l j]
theorem Tab.turned {T : Nat → Prop} {w w1 : World} {g mb ob : Nat} {rows rows1 : List Row} {came c1 c2 : Nat} {es0 es1 es2 : Array MapEntry} (h : Tab w g mb ob T rows came) (hx : Ex (fun b => b = mb ∨ b = ob) w w1)
    (h0 : w.heap[mb]? = some (.map es0 c1)) (h1 : w1.heap[mb]? = some (.map es1 c1)) (h2 : w1.heap[ob]? = some (.map es2 c2)) (e1 : es1.toList = rows1.map Row.e1) (e2 : es2.toList = rows1.map Row.e2) (hsub : rows1.Sublist rows) : Tab w1 g mb ob T rows1 came :=
  { h with
    hg := hx.blk h.hg (fun hb => hb.elim h.apart.1 h.apart.2)
    hm := ⟨es1, c1, h1, e1⟩
    ho := ⟨es2, c2, h2, e2⟩
    good := fun r hr => (h.good r (hsub.subset hr)).ex hx (fun b hb hs => hs.elim hb.2.2.1 hb.2.2.2)
    nums := fun r hr => h.nums r (hsub.subset hr)
    marks := h.marks.sublist hsub
    cames := h.cames.sublist hsub
    stamps := h.stamps.sublist hsub
    clock := fun es c hb r hr => by
      rw [h1] at hb
      cases hb
      exact h.clock es0 c1 h0 r (hsub.subset hr) }
theorem drop_calls (x : S27) (A : Option Addr) (c g mb ob : Nat) (T ok : Nat → Prop) (rows : List Row) (came : Nat) (w : World) (h : Tab w g mb ob T rows came) (hF : Kd.F k27 w ok A x.f3.length x.f3) : DROP x A c g w (DropS x g mb ob T rows came w) := by
  have hF2 := Kd.F_alloc hF (.cells #[.int .u8 x.f0, .int .i64 x.f1, .string x.f2, .slice A x.f3.length c, .int .i64 x.f4] 27)
  have hg2 := blk_alloc h.hg (.cells #[.int .u8 x.f0, .int .i64 x.f1, .string x.f2, .slice A x.f3.length c, .int .i64 x.f4] 27)
  cases hm : mayV x with
  | false => exact (drop_err x A c g w 2 rfl (find_arg x A c g mb _ _ _ ok hg2 hF2 hm)).mono (fun e w' he => .inl ⟨hm, he.1, he.2⟩)
  | true =>
    by_cases hk : KeyV x
    · obtain ⟨m, h1, h2, h3⟩ := key_mark hm hk
      obtain ⟨i0, hi0, hz0, _, _⟩ := info_parts info78
      obtain ⟨es, cl, hmb, hes⟩ := h.hm
      obtain ⟨es2, cl2, hob, hes2⟩ := h.ho
      have hlk : ∀ w1, Ex (fun _ => False) w w1 → (Instr.lookup 63 (.map (some mb)) m.val true).run Try.prog w1 = .ok (.tuple #[(under es zrow.val (posMk m (rows.map (·.m)))).1, .bool (under es zrow.val (posMk m (rows.map (·.m)))).2]) w1 :=
        fun w1 hx => run_lookup 63 78 Try.underlying63 hi0 hz0 (hx.blk hmb (fun h => h)) h2 h.key_all (h.keys_map hes) true
      have hd : ∀ w1 ty, w1.heap[mb]? = some (.map es cl) → (Builtin.delete_ #[63, 45] ty #[.map (some mb), m.val]).run Try.prog w1 = .ok (.tuple #[]) (setB w1 mb (.map (match posMk m (rows.map (·.m)) with | none => es | some j => es.eraseIdxIfInBounds j) cl)) :=
        fun w1 ty hb => run_del hb h2 h.key_all (h.keys_map hes) ty
      cases hp : posMk m (rows.map (·.m)) with
      | none =>
        rw [hp] at hlk hd
        refine (drop_at x z27 z27 A none none c 0 0 g mb ob 0 false _ w ok h.hg hF hm m h3 h2 _ _ _ _ hmb hob h.ne h.apart.1 hlk hd (fun w1 ty hb => run_undel hb hes2 0 (fun r hr => by have := (h.nums r hr).1; omega) ty)).mono ?_
        rintro e w' ⟨he, g1, g2, hx⟩
        exact .inr (.inr ⟨hm, m, h1, h2, hx, .inl ⟨fun hmem => posMk_none h2.1 hp m hmem rfl, he, h.turned hx hmb g1 g2 hes hes2 (List.Sublist.refl _)⟩⟩)
      | some j =>
        have hj := posMk_key h2.1 (fun m h' => (h.key_all m h').1) hp
        rw [List.getElem?_map] at hj
        cases hr : rows[j]? with
        | none => rw [hr] at hj; simp at hj
        | some r =>
          rw [hr] at hj
          have hrm : r.m = m := by simpa using hj
          rw [hp] at hd
          rw [hp, under_row hes hr] at hlk
          refine (drop_at x r.v r.k A r.B r.A c r.cb r.ca g mb ob r.n true _ w ok h.hg hF hm m h3 h2 _ _ _ _ hmb hob h.ne h.apart.1 hlk hd (fun w1 ty hb => run_unnum hb hes2 hr h.cames ty)).mono ?_
          rintro e w' ⟨he, g1, g2, hx⟩
          refine .inr (.inr ⟨hm, m, h1, h2, hx, .inr ⟨j, r, hr, hrm, he, h.turned hx hmb g1 g2 ?_ ?_ (List.eraseIdx_sublist _ _)⟩⟩)
          · rw [erase_toList, hes, map_erase]
          · rw [erase_toList, hes2, map_erase]
    · have hfind : Calls Try.prog 39 #[.pointer (some ⟨g, 0, none⟩), .agg #[.int .u8 x.f0, .int .i64 x.f1, .string x.f2, .slice A x.f3.length c, .int .i64 x.f4]] (w.alloc (.cells #[.int .u8 x.f0, .int .i64 x.f1, .string x.f2, .slice A x.f3.length c, .int .i64 x.f4] 27)) fun e w' => e = .returned (.tuple #[.nilIface, .int .i64 40]) ∧ Ex (fun _ => False) (w.alloc (.cells #[.int .u8 x.f0, .int .i64 x.f1, .string x.f2, .slice A x.f3.length c, .int .i64 x.f4] 27)) w' := by
        refine (find_key' x A c g mb _ _ _ ok hg2 hF2 hm).mono ?_
        rintro e w' ⟨m, h1, h2, hx, he⟩
        rw [no_key hk m h1, if_neg (by decide)] at he
        exact ⟨he, hx⟩
      exact (drop_err x A c g w 40 rfl hfind).mono (fun e w' he => .inr (.inl ⟨hm, hk, he.1, he.2⟩))
end Go.Proofs.Ythkemcekcfccpaa.PBrandCompares
end
section
namespace Go.Proofs.Ythkemcekcfccpaa.PBrandCompares
open Go.RowKit Go.Proofs.YthkemcekcfccpaaW.PrintWords Go.Proofs.YthkemcekcfccpaaW.PrintLast Go.Proofs.YthkemcekcfccpaaW.PrintMore
open Go.Proofs.Ythkemcekcfccpaa.GBrandCompares
set_option linter.unusedVariables false
set_option linter.unusedSimpArgs false
def Row.core (r : Row) : Mk × S27 × S27 × Nat := (r.m, r.k, r.v, r.n)
theorem Tab.add {S T : Nat → Prop} {w w1 : World} {g mb ob : Nat} {rows : List Row} {came c c2 : Nat} {es es2 : Array MapEntry} (h : Tab w g mb ob T rows came) (r : Row) (hx : Ex S w w1) (hS : ∀ b, S b → b = mb ∨ b = ob ∨ ¬ T b)
    (h0 : w.heap[mb]? = some (.map es c)) (e1 : es.toList = rows.map Row.e1) (h1 : w1.heap[mb]? = some (.map (es.push r.e1) (c + 1))) (hb : r.b1 = c)
    (e2 : es2.toList = rows.map Row.e2) (h2 : w1.heap[ob]? = some (.map (es2.push r.e2) c2))
    (hg : r.Good w1 (fun b => T b ∧ b ≠ g ∧ b ≠ mb ∧ b ≠ ob)) (hm : r.m ∉ rows.map (·.m)) (hn : 1 ≤ r.n ∧ r.n ≤ came) (hnn : ∀ s ∈ rows, s.n ≠ r.n) : Tab w1 g mb ob T (rows ++ [r]) came :=
  { h with
    hg := hx.blk h.hg (fun hb => by rcases hS _ hb with h1 | h1 | h1; exact h.apart.1 h1; exact h.apart.2 h1; exact h1 h.tg)
    hm := ⟨_, _, h1, by rw [Array.toList_push, e1, List.map_append]; rfl⟩
    ho := ⟨_, _, h2, by rw [Array.toList_push, e2, List.map_append]; rfl⟩
    good := fun s hs => by
      rcases List.mem_append.1 hs with h3 | h3
      · exact (h.good s h3).ex hx (fun b hb hs => by rcases hS b hs with h1 | h1 | h1; exact hb.2.2.1 h1; exact hb.2.2.2 h1; exact h1 hb.1)
      · rw [List.mem_singleton] at h3
        exact h3 ▸ hg
    nums := fun s hs => by
      rcases List.mem_append.1 hs with h3 | h3
      · exact h.nums s h3
      · rw [List.mem_singleton] at h3
        exact h3 ▸ hn
    marks := by
      rw [List.pairwise_append]
      exact ⟨h.marks, by simp, fun s hs q hq => by rw [List.mem_singleton] at hq; subst hq; exact fun e => hm (e ▸ List.mem_map.2 ⟨s, hs, rfl⟩)⟩
    cames := by
      rw [List.pairwise_append]
      exact ⟨h.cames, by simp, fun s hs q hq => by rw [List.mem_singleton] at hq; subst hq; exact hnn s hs⟩
    stamps := by
      rw [List.pairwise_append]
      exact ⟨h.stamps, by simp, fun s hs q hq => by rw [List.mem_singleton] at hq; subst hq; have := h.clock es c h0 s hs; omega⟩
    clock := fun es' c' hb' s hs => by
      rw [h1] at hb'
      cases hb'
      rcases List.mem_append.1 hs with h3 | h3
      · have := h.clock es c h0 s h3; omega
      · rw [List.mem_singleton] at h3
        subst h3; omega }
structure Visit (rows done left : List Row) (seen : Array Nat) : Prop where
  perm : (done ++ left).Perm rows
  old : ∀ s ∈ done, seen.contains s.b1 = true
  new : ∀ s ∈ left, seen.contains s.b1 = false
theorem Visit.start (rows : List Row) : Visit rows [] rows #[] := ⟨List.Perm.refl _, by simp, by simp⟩
theorem Visit.stop {rows done left : List Row} {seen : Array Nat} {es : Array MapEntry} (h : Visit rows done left seen) (hes : es.toList = rows.map Row.e1) (h0 : (leftOf es seen).size = 0) : left = [] := by
  cases left with
  | nil => rfl
  | cons s l =>
    exfalso
    have hs : s ∈ rows := h.perm.mem_iff.1 (by simp)
    have he : s.e1 ∈ es.toList := by rw [hes]; exact List.mem_map.2 ⟨s, hs, rfl⟩
    have : s.e1 ∈ leftOf es seen := by
      unfold leftOf
      rw [Array.mem_filter]
      refine ⟨Array.mem_toList_iff.1 he, ?_⟩
      show (!seen.contains s.b1) = true
      rw [h.new s (by simp)]
      rfl
    rw [Array.eq_empty_of_size_eq_zero h0] at this
    simp at this
theorem Visit.next {rows done left : List Row} {seen : Array Nat} {es : Array MapEntry} {e : MapEntry} (h : Visit rows done left seen) (hes : es.toList = rows.map Row.e1) (hb : rows.Pairwise (fun r s => r.b1 ≠ s.b1)) (hm : rows.Pairwise (fun r s => r.m ≠ s.m)) (hn : rows.Pairwise (fun r s => r.n ≠ s.n))
    (he : e ∈ (leftOf es seen).toList) : ∃ s left', s ∈ rows ∧ e = s.e1 ∧ left.length = left'.length + 1 ∧ Visit rows (done ++ [s]) left' (seen.push e.born) ∧ (∀ q ∈ done, q.m ≠ s.m ∧ q.n ≠ s.n) := by
  obtain ⟨h1, h2⟩ := mem_left he
  rw [hes] at h1
  obtain ⟨s, hs, rfl⟩ := List.mem_map.1 h1
  have hsd : s ∉ done := fun hd => by
    have := h.old s hd
    have h2' : seen.contains s.b1 = false := h2
    rw [h2'] at this; cases this
  have hl : s ∈ left := by
    rcases List.mem_append.1 (h.perm.mem_iff.2 hs) with h3 | h3
    · exact absurd h3 hsd
    · exact h3
  obtain ⟨l1, l2, rfl⟩ := List.append_of_mem hl
  have hp : (s :: (done ++ (l1 ++ l2))).Perm rows := by
    refine List.Perm.trans ?_ h.perm
    rw [← List.append_assoc, ← List.append_assoc]
    exact List.perm_middle.symm
  have sym : ∀ {f : Row → Nat}, (∀ {x y : Row}, f x ≠ f y → f y ≠ f x) := fun h => Ne.symm h
  have hb' := hp.symm.pairwise hb (fun h => Ne.symm h)
  have hm' := hp.symm.pairwise hm (fun h => Ne.symm h)
  have hn' := hp.symm.pairwise hn (fun h => Ne.symm h)
  rw [List.pairwise_cons] at hb' hm' hn'
  refine ⟨s, l1 ++ l2, hs, rfl, by simp; omega, ⟨?_, ?_, ?_⟩, fun q hq => ⟨Ne.symm (hm'.1 q (by simp [hq])), Ne.symm (hn'.1 q (by simp [hq]))⟩⟩
  · refine List.Perm.trans ?_ hp
    rw [List.append_assoc]
    exact List.perm_middle
  · intro q hq
    rw [contains_push]
    rcases List.mem_append.1 hq with h3 | h3
    · rw [h.old q h3]; rfl
    · rw [List.mem_singleton] at h3
      subst h3
      show (_ || q.b1 == q.b1) = true
      simp
  · intro q hq
    rw [contains_push]
    have h3 : q ∈ l1 ++ s :: l2 := by
      rcases List.mem_append.1 hq with h4 | h4
      · simp [h4]
      · simp [h4]
    rw [h.new q h3]
    show (false || q.b1 == s.b1) = false
    have := hb'.1 q (by simp only [List.mem_append]; exact .inr (List.mem_append.1 hq))
    simpa using Ne.symm this
theorem run_ord {w : World} {r clock : Nat} {es : Array MapEntry} {rows : List Row} (hb : w.heap[r]? = some (.map es clock)) (hes : es.toList = rows.map Row.e2) (k : Int) (hn : ∀ r ∈ rows, (r.n : Int) ≠ k) (v : Value) :
    (Instr.mapUpdate 64 (.map (some r)) (.int .i64 k) v).run Try.prog w = .ok () (setB w r (.map (es.push { key := .int .i64 k, val := v, born := clock }) (clock + 1))) := by
  unfold Instr.mapUpdate
  rw [Sem.run_bind, run_underlying Try.underlying64, Result.andThen_ok]
  have hc : (Instr.checkKey false 10000 3 (.int .i64 k)).run Try.prog w = .ok () w := check_int Try.underlying3 false 9999 _ w
  have hf : (Instr.findKey 3 (.int .i64 k) es.toList).run Try.prog w = .ok none w := Go.MapKept.run_findKey Try.underlying3 (find_order _ _ _ (by
    rw [hes]
    intro e he
    obtain ⟨r, hr, rfl⟩ := List.mem_map.1 he
    exact ⟨r.n, rfl, hn r hr⟩))
  simp only [Sem.run_bind, Go.MapKept.run_getObj_map hb, Result.andThen_ok, Sem.run_pure, hc, hf]
  exact Go.MapKept.run_setObj_map _ hb
structure Lone (w : World) (lo hi : Nat) (r : Row) : Prop where
  k : Kd.R k27 27 w lo (fun b => lo ≤ b ∧ b < hi) (.slice r.A r.k.f3.length r.ca) r.k.f3
  v : Kd.R k27 27 w lo (fun b => lo ≤ b ∧ b < hi) (.slice r.B r.v.f3.length r.cb) r.v.f3
theorem ex_R {S ok : Nat → Prop} {w w1 : World} {base : Nat} {v : Value} {xs : List S27} (hx : Ex S w w1) (h : Kd.R k27 27 w base ok v xs) (hs : ∀ k, ok k → ¬ S k) : Kd.R k27 27 w1 base ok v xs :=
  Kd.R_step h (fun k hk hlt => hx.block k hlt (hs k hk))
theorem Lone.ex {S : Nat → Prop} {w w1 : World} {lo hi : Nat} {r : Row} (h : Lone w lo hi r) (hx : Ex S w w1) (hs : ∀ b, lo ≤ b → b < hi → ¬ S b) : Lone w1 lo hi r :=
  ⟨ex_R hx h.k (fun k hk => hs k hk.1 hk.2), ex_R hx h.v (fun k hk => hs k hk.1 hk.2)⟩
theorem Lone.widen {w : World} {lo hi lo' hi' : Nat} {r : Row} (h : Lone w lo hi r) (h1 : lo' ≤ lo) (h2 : hi ≤ hi') : Lone w lo' hi' r :=
  ⟨Kd.R_lower (Kd.R_mono h.k (fun k hk => ⟨Nat.le_trans h1 hk.1, Nat.lt_of_lt_of_le hk.2 h2⟩)) h1, Kd.R_lower (Kd.R_mono h.v (fun k hk => ⟨Nat.le_trans h1 hk.1, Nat.lt_of_lt_of_le hk.2 h2⟩)) h1⟩
def Spans (w : World) (lo : Nat) (rows : List Row) : Prop :=
  ∃ cut : Nat → Nat, lo ≤ cut 0 ∧ (∀ i, cut i ≤ cut (i + 1)) ∧ cut rows.length ≤ w.heap.size ∧ ∀ i r, rows[i]? = some r → Lone w (cut i) (cut (i + 1)) r
theorem cut_le {cut : Nat → Nat} (h : ∀ i, cut i ≤ cut (i + 1)) {i j : Nat} (hij : i ≤ j) : cut i ≤ cut j := by
  induction hij with
  | refl => exact Nat.le_refl _
  | step _ ih => exact Nat.le_trans ih (h _)
theorem Spans.nil {w : World} {lo : Nat} (h : lo ≤ w.heap.size) : Spans w lo [] := ⟨fun _ => lo, Nat.le_refl _, fun _ => Nat.le_refl _, h, by simp⟩
theorem Spans.snoc {S : Nat → Prop} {w w1 : World} {lo l h : Nat} {rows : List Row} {r : Row} (hp : Spans w lo rows) (hx : Ex S w w1) (hS : ∀ b, S b → b < lo) (hl : w.heap.size ≤ l) (hh : h ≤ w1.heap.size) (hlh : l ≤ h) (hr : Lone w1 l h r) : Spans w1 lo (rows ++ [r]) := by
  obtain ⟨cut, h0, h1, h2, h3⟩ := hp
  refine ⟨fun i => if i ≤ rows.length then cut i else h, by simpa using h0, fun i => ?_, by rw [List.length_append]; show (if rows.length + 1 ≤ rows.length then _ else h) ≤ _; rw [if_neg (by omega)]; exact hh, fun i q hq => ?_⟩
  · show (if i ≤ rows.length then cut i else h) ≤ (if i + 1 ≤ rows.length then cut (i + 1) else h)
    by_cases e : i + 1 ≤ rows.length
    · rw [if_pos e, if_pos (by omega)]; exact h1 i
    · rw [if_neg e]
      split
      · have := cut_le h1 (show i ≤ rows.length by assumption)
        omega
      · exact Nat.le_refl _
  · by_cases e : i < rows.length
    · rw [List.getElem?_append_left e] at hq
      simp only [if_pos (show i ≤ rows.length by omega), if_pos (show i + 1 ≤ rows.length by omega)]
      refine (h3 i q hq).ex hx (fun b hb _ hs => ?_)
      have := hS b hs
      have := cut_le h1 (Nat.zero_le i)
      omega
    · have hi : i = rows.length := by
        have := (List.getElem?_eq_some_iff.1 hq).1
        simp at this
        omega
      subst hi
      have : q = r := by simpa using hq.symm
      subst this
      simp only [if_pos (Nat.le_refl rows.length), if_neg (show ¬ rows.length + 1 ≤ rows.length by omega)]
      exact hr.widen (by omega) (Nat.le_refl _)
end Go.Proofs.Ythkemcekcfccpaa.PBrandCompares
end
