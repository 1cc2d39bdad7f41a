/- Put of a table, at a mark that it has. -/
import Derived.Test.YthkemcekcfccpaaBrandComparesT2e
import Derived.Test.YthkemcekcfccpaaBrandComparesT3
namespace Go.Proofs.Ythkemcekcfccpaa.PBrandCompares
open Go.RowKit Go.Proofs.YthkemcekcfccpaaW.PrintWords Go.Proofs.YthkemcekcfccpaaW.PrintLast Go.Proofs.YthkemcekcfccpaaW.PrintMore
open Go.Proofs.Ythkemcekcfccpaa.GBrandCompares
set_option linter.unusedVariables false
set_option linter.unusedSimpArgs false

set_option maxRecDepth 100000 in
set_option maxHeartbeats 4000000 in
theorem put_old (x y : S27) (A B : Option Addr) (c d g mb ob : Nat) (T ok : Nat → Prop) (rows : List Row) (came : Nat) (w : World) (h : Tab w g mb ob T rows came) (hcame : came < 1000000000) (hc : x.f3.length ≤ c) (hd : y.f3.length ≤ d) (hF : Kd.F k27 w ok A x.f3.length x.f3) (hF2 : Kd.F k27 w ok B y.f3.length y.f3) (hok : ∀ b, ok b → ¬ T b) (hm : mayV x = true) (hn : mayV y = true) (m : Mk) (hmk : ∀ m2, MarkOf x m2 → m2 = m) (hkey : Key m) (j : Nat) (r : Row) (hp : posMk m (rows.map (·.m)) = some j) (hr : rows[j]? = some r) (hrm : r.m = m) : PUT x y A B c d g w fun e w' => e = .returned (.tuple #[.agg #[.int .u8 r.v.f0, .int .i64 r.v.f1, .string r.v.f2, .slice r.B r.v.f3.length r.cb, .int .i64 r.v.f4], .bool true, .int .i64 0]) ∧ Ex (fun b => b = g ∨ b = mb ∨ b = ob) w w' ∧ Kd.F k27 w' T r.B r.v.f3.length r.v.f3 ∧ ∃ B d, Tab w' g mb ob (fun b => T b ∨ w.heap.size ≤ b) (rows.set j (r.turn y B d)) came := by
  have HT := Aside0.mk h
  have HG := Aside0.mk h.hg
  have HF := Aside0.mk (Kd.F_bound hF)
  have HF2 := Aside0.mk (Kd.F_bound hF2)
  have HM := Aside0.mk hm
  have HN := Aside0.mk hn
  have HMK := Aside0.mk hmk
  have HKEY := Aside0.mk hkey
  have HOK := Aside0.mk hok
  have HC := Aside0.mk (And.intro hc hd)
  have HP := Aside0.mk hp
  have HRW := Aside0.mk (And.intro hr hrm)
  obtain ⟨i0, hi0, hz0, _, _⟩ := info_parts info78
  have HI := Aside0.mk (And.intro hi0 hz0)
  clear h hF hm hF2 hn hmk hkey hp hi0 hz0 hok hc hd hr hrm
  unfold PUT
  go_enter Try.func15, Try.ntmps15
  go_wp2_with fail
  refine (none_no g mb _ _ _ (blk_alloc (blk_alloc (blk_alloc HG.out _) _) _)).mono ?_
  rintro e w1 ⟨rfl, rfl⟩
  go_wp2_with fail
  refine (may_calls x A c _ _ (Kd.F_alloc (Kd.F_alloc (Kd.F_alloc HF.out _) _) _)).mono ?_
  rintro e w1 ⟨rfl, hx1⟩
  have hm' := HM.out
  rw [hm']
  clear hm'
  have HG1 := Aside0.mk (hx1.blk (blk_alloc (blk_alloc (blk_alloc HG.out _) _) _) (fun h => h))
  have HK1 := Aside0.mk (hx1.blk (blk_alloc (blk_alloc (blk_new1 w _) _) _) (fun h => h))
  have HV1 := Aside0.mk (hx1.blk (blk_alloc (blk_new2 w _ _) _) (fun h => h))
  have HB1 := Aside0.mk (show w1.heap[w.heap.size + 1 + 1]? = some (.cells #[.int .u8 0, .int .i64 0, .string ⟨#[]⟩, .slice none 0 0, .int .i64 0] 27 (0, 0)) from hx1.blk (blk_new3 w _ _ _) (fun h => h))
  have HX1 := Aside0.mk (((((Ex.refl (fun _ => False) w).alloc _).alloc _).alloc _).trans hx1 (fun _ h => h.elim))
  clear hx1
  have vc0 := (blk_cell HV1.out 0).trans rfl
  have vc1 := (blk_cell HV1.out 1).trans rfl
  have vc2 := (blk_cell HV1.out 2).trans rfl
  have vc3 := (blk_cell HV1.out 3).trans rfl
  have vc4 := (blk_cell HV1.out 4).trans rfl
  have vf0 := blk_frozen HV1.out 0
  have vf1 := blk_frozen HV1.out 1
  have vf2 := blk_frozen HV1.out 2
  have vf3 := blk_frozen HV1.out 3
  have vf4 := blk_frozen HV1.out 4
  have vl := lt_of_blk HV1.out
  go_wp2_with fail
  refine (may_calls y B d _ _ (ex_F HX1.out HF2.out (fun _ _ h => h))).mono ?_
  rintro e w2 ⟨rfl, hx2⟩
  have hm' := HN.out
  rw [hm']
  clear hm'
  have HG2 := Aside0.mk (hx2.blk HG1.out (fun h => h))
  have HK2 := Aside0.mk (hx2.blk HK1.out (fun h => h))
  have HV2 := Aside0.mk (hx2.blk HV1.out (fun h => h))
  have HB2 := Aside0.mk (hx2.blk HB1.out (fun h => h))
  have HX2 := Aside0.mk (HX1.out.trans hx2 (fun _ h => h.elim))
  clear hx2
  clear vc0 vc1 vc2 vc3 vc4 vf0 vf1 vf2 vf3 vf4 vl
  have kc0 := (blk_cell HK2.out 0).trans rfl
  have kc1 := (blk_cell HK2.out 1).trans rfl
  have kc2 := (blk_cell HK2.out 2).trans rfl
  have kc3 := (blk_cell HK2.out 3).trans rfl
  have kc4 := (blk_cell HK2.out 4).trans rfl
  have kf0 := blk_frozen HK2.out 0
  have kf1 := blk_frozen HK2.out 1
  have kf2 := blk_frozen HK2.out 2
  have kf3 := blk_frozen HK2.out 3
  have kf4 := blk_frozen HK2.out 4
  have kl := lt_of_blk HK2.out
  go_wp2_with fail
  refine (find_key' x A c g mb _ _ _ _ HG2.out (ex_F HX2.out HF.out (fun _ _ h => h)) HM.out).mono ?_
  rintro e w3 ⟨m2, h1, h2, hx3, rfl⟩
  have hm2 := HMK.out m2 h1
  subst hm2
  have hk' := HKEY.out.1
  rw [hk']
  clear hk' h2
  have H1 := Aside0.mk h1
  clear h1
  have HG3 := Aside0.mk (hx3.blk HG2.out (fun h => h))
  have HK3 := Aside0.mk (hx3.blk HK2.out (fun h => h))
  have HV3 := Aside0.mk (hx3.blk HV2.out (fun h => h))
  have HB3 := Aside0.mk (hx3.blk HB2.out (fun h => h))
  have HX3 := Aside0.mk (HX2.out.trans hx3 (fun _ h => h.elim))
  have HT3 := Aside0.mk (HT.out.ex0 HX3.out)
  have HF3 := Aside0.mk (ex_F HX3.out HF.out (fun _ _ h => h))
  have HF23 := Aside0.mk (ex_F HX3.out HF2.out (fun _ _ h => h))
  clear hx3
  clear kc0 kc1 kc2 kc3 kc4 kf0 kf1 kf2 kf3 kf4 kl
  obtain ⟨es, cl, hmb, hes⟩ := HT3.out.hm
  have hlk := run_lookup 63 78 Try.underlying63 HI.out.1 HI.out.2 hmb HKEY.out (HT3.out.key_all) (HT3.out.keys_map hes) true
  rw [HP.out, under_row hes HRW.out.1] at hlk
  have hlk' : (Instr.lookup 63 (.map (some mb)) m2.val true).run Try.prog w3 = .ok (.tuple #[.agg #[.int .u8 r.k.f0, .int .i64 r.k.f1, .string r.k.f2, .slice r.A r.k.f3.length r.ca, .int .i64 r.k.f4, .int .u8 r.v.f0, .int .i64 r.v.f1, .string r.v.f2, .slice r.B r.v.f3.length r.cb, .int .i64 r.v.f4, .int .i64 r.n], .bool true]) w3 := hlk
  have HMB3 := Aside0.mk hmb
  have HES := Aside0.mk hes
  clear hlk hmb hes
  obtain ⟨t1, u1, hu1⟩ := m2.val_iface
  rw [hu1]
  rw [hu1] at hlk'
  have HU := Aside0.mk hu1
  clear hu1
  have gc0 := (blk_cell HG3.out 0).trans rfl
  have gc1 := (blk_cell HG3.out 1).trans rfl
  have gc2 := (blk_cell HG3.out 2).trans rfl
  have gf0 := blk_frozen HG3.out 0
  have gf1 := blk_frozen HG3.out 1
  have gf2 := blk_frozen HG3.out 2
  have gl := lt_of_blk HG3.out
  have bc0 := (blk_cell HB3.out 0).trans rfl
  have bc1 := (blk_cell HB3.out 1).trans rfl
  have bc2 := (blk_cell HB3.out 2).trans rfl
  have bc3 := (blk_cell HB3.out 3).trans rfl
  have bc4 := (blk_cell HB3.out 4).trans rfl
  have bf0 := blk_frozen HB3.out 0
  have bf1 := blk_frozen HB3.out 1
  have bf2 := blk_frozen HB3.out 2
  have bf3 := blk_frozen HB3.out 3
  have bf4 := blk_frozen HB3.out 4
  have bl := lt_of_blk HB3.out
  have kc0 := (blk_cell HK3.out 0).trans rfl
  have kc1 := (blk_cell HK3.out 1).trans rfl
  have kc2 := (blk_cell HK3.out 2).trans rfl
  have kc3 := (blk_cell HK3.out 3).trans rfl
  have kc4 := (blk_cell HK3.out 4).trans rfl
  have kf0 := blk_frozen HK3.out 0
  have kf1 := blk_frozen HK3.out 1
  have kf2 := blk_frozen HK3.out 2
  have kf3 := blk_frozen HK3.out 3
  have kf4 := blk_frozen HK3.out 4
  have kl := lt_of_blk HK3.out
  have vc0 := (blk_cell HV3.out 0).trans rfl
  have vc1 := (blk_cell HV3.out 1).trans rfl
  have vc2 := (blk_cell HV3.out 2).trans rfl
  have vc3 := (blk_cell HV3.out 3).trans rfl
  have vc4 := (blk_cell HV3.out 4).trans rfl
  have vf0 := blk_frozen HV3.out 0
  have vf1 := blk_frozen HV3.out 1
  have vf2 := blk_frozen HV3.out 2
  have vf3 := blk_frozen HV3.out 3
  have vf4 := blk_frozen HV3.out 4
  have vl := lt_of_blk HV3.out
  have hg0 : g < w.heap.size := lt_of_blk HG.out
  go_wp2_with fail
  have HX35 := Aside0.mk ((ex_put27 (Ex.refl (fun b => b = w.heap.size + 1 + 1) w3) (.inl rfl) (.int .u8 r.v.f0) (.int .i64 r.v.f1) (.string r.v.f2) (.slice r.B r.v.f3.length r.cb) (.int .i64 r.v.f4)).alloc (.cells #[.int .u8 r.k.f0, .int .i64 r.k.f1, .string r.k.f2, .slice r.A r.k.f3.length r.ca, .int .i64 r.k.f4, .int .u8 r.v.f0, .int .i64 r.v.f1, .string r.v.f2, .slice r.B r.v.f3.length r.cb, .int .i64 r.v.f4, .int .i64 r.n] 78))
  have HP5 := Aside0.mk (show ((((((w3.setCell ⟨w.heap.size + 1 + 1, 0, none⟩ (.int .u8 r.v.f0)).setCell ⟨w.heap.size + 1 + 1, 1, none⟩ (.int .i64 r.v.f1)).setCell ⟨w.heap.size + 1 + 1, 2, none⟩ (.string r.v.f2)).setCell ⟨w.heap.size + 1 + 1, 3, none⟩ (.slice r.B r.v.f3.length r.cb)).setCell ⟨w.heap.size + 1 + 1, 4, none⟩ (.int .i64 r.v.f4)).alloc (.cells #[.int .u8 r.k.f0, .int .i64 r.k.f1, .string r.k.f2, .slice r.A r.k.f3.length r.ca, .int .i64 r.k.f4, .int .u8 r.v.f0, .int .i64 r.v.f1, .string r.v.f2, .slice r.B r.v.f3.length r.cb, .int .i64 r.v.f4, .int .i64 r.n] 78)).heap[w3.heap.size]? = some (.cells #[.int .u8 r.k.f0, .int .i64 r.k.f1, .string r.k.f2, .slice r.A r.k.f3.length r.ca, .int .i64 r.k.f4, .int .u8 r.v.f0, .int .i64 r.v.f1, .string r.v.f2, .slice r.B r.v.f3.length r.cb, .int .i64 r.v.f4, .int .i64 r.n] 78 (0, 0)) from by
    have h := blk_new1 (((((w3.setCell ⟨w.heap.size + 1 + 1, 0, none⟩ (.int .u8 r.v.f0)).setCell ⟨w.heap.size + 1 + 1, 1, none⟩ (.int .i64 r.v.f1)).setCell ⟨w.heap.size + 1 + 1, 2, none⟩ (.string r.v.f2)).setCell ⟨w.heap.size + 1 + 1, 3, none⟩ (.slice r.B r.v.f3.length r.cb)).setCell ⟨w.heap.size + 1 + 1, 4, none⟩ (.int .i64 r.v.f4)) (.cells #[.int .u8 r.k.f0, .int .i64 r.k.f1, .string r.k.f2, .slice r.A r.k.f3.length r.ca, .int .i64 r.k.f4, .int .u8 r.v.f0, .int .i64 r.v.f1, .string r.v.f2, .slice r.B r.v.f3.length r.cb, .int .i64 r.v.f4, .int .i64 r.n] 78)
    rw [show (((((w3.setCell ⟨w.heap.size + 1 + 1, 0, none⟩ (.int .u8 r.v.f0)).setCell ⟨w.heap.size + 1 + 1, 1, none⟩ (.int .i64 r.v.f1)).setCell ⟨w.heap.size + 1 + 1, 2, none⟩ (.string r.v.f2)).setCell ⟨w.heap.size + 1 + 1, 3, none⟩ (.slice r.B r.v.f3.length r.cb)).setCell ⟨w.heap.size + 1 + 1, 4, none⟩ (.int .i64 r.v.f4)).heap.size = w3.heap.size by simp [World.setCell]] at h
    exact h)
  have HB5 := Aside0.mk (blk_alloc (put27 HB3.out rfl (.int .u8 r.v.f0) (.int .i64 r.v.f1) (.string r.v.f2) (.slice r.B r.v.f3.length r.cb) (.int .i64 r.v.f4)) (.cells #[.int .u8 r.k.f0, .int .i64 r.k.f1, .string r.k.f2, .slice r.A r.k.f3.length r.ca, .int .i64 r.k.f4, .int .u8 r.v.f0, .int .i64 r.v.f1, .string r.v.f2, .slice r.B r.v.f3.length r.cb, .int .i64 r.v.f4, .int .i64 r.n] 78))
  refine (own_calls y B d _ (fun k => ok k ∧ k < w.heap.size) HC.out.2 (ex_F HX35.out HF23.out (fun b hb => show ¬ b = w.heap.size + 1 + 1 by have := hb.2; omega)) HN.out).mono ?_
  rintro e w7 ⟨v, rfl, B1, d1, rfl, l2, hR2, hx7⟩
  have HL2 := Aside0.mk l2
  have HX37 := Aside0.mk (HX35.out.trans hx7 (fun _ h => h.elim))
  have HB7 := Aside0.mk (hx7.blk HB5.out (fun h => h))
  have HP7 := Aside0.mk (hx7.blk HP5.out (fun h => h))
  have HR29 := Aside0.mk hR2
  have hs8 : w3.heap.size < (((((((w3.setCell ⟨w.heap.size + 1 + 1, 0, none⟩ (.int .u8 r.v.f0)).setCell ⟨w.heap.size + 1 + 1, 1, none⟩ (.int .i64 r.v.f1)).setCell ⟨w.heap.size + 1 + 1, 2, none⟩ (.string r.v.f2)).setCell ⟨w.heap.size + 1 + 1, 3, none⟩ (.slice r.B r.v.f3.length r.cb)).setCell ⟨w.heap.size + 1 + 1, 4, none⟩ (.int .i64 r.v.f4)).alloc (.cells #[.int .u8 r.k.f0, .int .i64 r.k.f1, .string r.k.f2, .slice r.A r.k.f3.length r.ca, .int .i64 r.k.f4, .int .u8 r.v.f0, .int .i64 r.v.f1, .string r.v.f2, .slice r.B r.v.f3.length r.cb, .int .i64 r.v.f4, .int .i64 r.n] 78))).heap.size := lt_of_blk HP5.out
  clear HX35 HB5 HP5 hx7 hR2 l2
  generalize ((((((w3.setCell ⟨w.heap.size + 1 + 1, 0, none⟩ (.int .u8 r.v.f0)).setCell ⟨w.heap.size + 1 + 1, 1, none⟩ (.int .i64 r.v.f1)).setCell ⟨w.heap.size + 1 + 1, 2, none⟩ (.string r.v.f2)).setCell ⟨w.heap.size + 1 + 1, 3, none⟩ (.slice r.B r.v.f3.length r.cb)).setCell ⟨w.heap.size + 1 + 1, 4, none⟩ (.int .i64 r.v.f4)).alloc (.cells #[.int .u8 r.k.f0, .int .i64 r.k.f1, .string r.k.f2, .slice r.A r.k.f3.length r.ca, .int .i64 r.k.f4, .int .u8 r.v.f0, .int .i64 r.v.f1, .string r.v.f2, .slice r.B r.v.f3.length r.cb, .int .i64 r.v.f4, .int .i64 r.n] 78)) = w5 at HR29 hs8
  clear gc0 gc1 gc2 gf0 gf1 gf2 gl
  clear bc0 bc1 bc2 bc3 bc4 bf0 bf1 bf2 bf3 bf4 bl
  clear kc0 kc1 kc2 kc3 kc4 kf0 kf1 kf2 kf3 kf4 kl
  clear vc0 vc1 vc2 vc3 vc4 vf0 vf1 vf2 vf3 vf4 vl
  have HG7 := Aside0.mk (HX37.out.blk HG3.out (show ¬ g = w.heap.size + 1 + 1 by omega))
  have HMB7 := Aside0.mk (HX37.out.blk HMB3.out (show ¬ mb = w.heap.size + 1 + 1 by rintro rfl; exact absurd (HMB3.out.symm.trans HB3.out) (by simp)))
  have gc0 := (blk_cell HG7.out 0).trans rfl
  have gc1 := (blk_cell HG7.out 1).trans rfl
  have gc2 := (blk_cell HG7.out 2).trans rfl
  have gf0 := blk_frozen HG7.out 0
  have gf1 := blk_frozen HG7.out 1
  have gf2 := blk_frozen HG7.out 2
  have gl := lt_of_blk HG7.out
  have pc0 := (blk_cell HP7.out 0).trans rfl
  have pc1 := (blk_cell HP7.out 1).trans rfl
  have pc2 := (blk_cell HP7.out 2).trans rfl
  have pc3 := (blk_cell HP7.out 3).trans rfl
  have pc4 := (blk_cell HP7.out 4).trans rfl
  have pc5 := (blk_cell HP7.out 5).trans rfl
  have pc6 := (blk_cell HP7.out 6).trans rfl
  have pc7 := (blk_cell HP7.out 7).trans rfl
  have pc8 := (blk_cell HP7.out 8).trans rfl
  have pc9 := (blk_cell HP7.out 9).trans rfl
  have pc10 := (blk_cell HP7.out 10).trans rfl
  have pf0 := blk_frozen HP7.out 0
  have pf1 := blk_frozen HP7.out 1
  have pf2 := blk_frozen HP7.out 2
  have pf3 := blk_frozen HP7.out 3
  have pf4 := blk_frozen HP7.out 4
  have pf5 := blk_frozen HP7.out 5
  have pf6 := blk_frozen HP7.out 6
  have pf7 := blk_frozen HP7.out 7
  have pf8 := blk_frozen HP7.out 8
  have pf9 := blk_frozen HP7.out 9
  have pf10 := blk_frozen HP7.out 10
  have pl := lt_of_blk HP7.out
  have bc0 := (blk_cell HB7.out 0).trans rfl
  have bc1 := (blk_cell HB7.out 1).trans rfl
  have bc2 := (blk_cell HB7.out 2).trans rfl
  have bc3 := (blk_cell HB7.out 3).trans rfl
  have bc4 := (blk_cell HB7.out 4).trans rfl
  have bf0 := blk_frozen HB7.out 0
  have bf1 := blk_frozen HB7.out 1
  have bf2 := blk_frozen HB7.out 2
  have bf3 := blk_frozen HB7.out 3
  have bf4 := blk_frozen HB7.out 4
  have bl := lt_of_blk HB7.out
  go_wp2_with fail
  clear gc0 gc1 gc2 gf0 gf1 gf2 gl
  clear pc0 pc1 pc2 pc3 pc4 pc5 pc6 pc7 pc8 pc9 pc10 pf0 pf1 pf2 pf3 pf4 pf5 pf6 pf7 pf8 pf9 pf10 pl
  clear bc0 bc1 bc2 bc3 bc4 bf0 bf1 bf2 bf3 bf4 bl
  have HX78 := Aside0.mk (ex_put78v (Ex.refl (fun b => b = w3.heap.size) w7) (.inl rfl) (.int .u8 y.f0) (.int .i64 y.f1) (.string y.f2) (.slice B1 y.f3.length d1) (.int .i64 y.f4))
  have HP8 := Aside0.mk (put78v HP7.out (.int .u8 y.f0) (.int .i64 y.f1) (.string y.f2) (.slice B1 y.f3.length d1) (.int .i64 y.f4))
  generalize (((((w7.setCell ⟨w3.heap.size, 5, none⟩ (.int .u8 y.f0)).setCell ⟨w3.heap.size, 6, none⟩ (.int .i64 y.f1)).setCell ⟨w3.heap.size, 7, none⟩ (.string y.f2)).setCell ⟨w3.heap.size, 8, none⟩ (.slice B1 y.f3.length d1)).setCell ⟨w3.heap.size, 9, none⟩ (.int .i64 y.f4)) = w8 at HX78 HP8 ⊢
  have HG8 := Aside0.mk (HX78.out.blk HG7.out (show ¬ g = w3.heap.size by have := HX3.out.size; omega))
  have HB8 := Aside0.mk (HX78.out.blk HB7.out (show ¬ w.heap.size + 1 + 1 = w3.heap.size by have := lt_of_blk HB3.out; omega))
  have HMB8 := Aside0.mk (HX78.out.blk HMB7.out (show ¬ mb = w3.heap.size by have := lt_of_blk HMB3.out; omega))
  have HPUT := run_old (blk_drew HMB8.out) HKEY.out (HT3.out.key_all) (HT3.out.keys_map HES.out) HP.out (.agg #[.int .u8 r.k.f0, .int .i64 r.k.f1, .string r.k.f2, .slice r.A r.k.f3.length r.ca, .int .i64 r.k.f4, .int .u8 y.f0, .int .i64 y.f1, .string y.f2, .slice B1 y.f3.length d1, .int .i64 y.f4, .int .i64 r.n])
  rw [HU.out] at HPUT
  have HX89 := Aside0.mk (ex_setB ((Ex.refl (fun b => b = mb) w8).drew) (.inl rfl) (.map (es.modify j fun e => { e with key := .iface t1 u1, val := .agg #[.int .u8 r.k.f0, .int .i64 r.k.f1, .string r.k.f2, .slice r.A r.k.f3.length r.ca, .int .i64 r.k.f4, .int .u8 y.f0, .int .i64 y.f1, .string y.f2, .slice B1 y.f3.length d1, .int .i64 y.f4, .int .i64 r.n] }) cl))
  have HMB9 := Aside0.mk (setB_blk (o' := .map (es.modify j fun e => { e with key := .iface t1 u1, val := .agg #[.int .u8 r.k.f0, .int .i64 r.k.f1, .string r.k.f2, .slice r.A r.k.f3.length r.ca, .int .i64 r.k.f4, .int .u8 y.f0, .int .i64 y.f1, .string y.f2, .slice B1 y.f3.length d1, .int .i64 y.f4, .int .i64 r.n] }) cl) (blk_drew HMB8.out))
  generalize setB w8.drew mb (.map (es.modify j fun e => { e with key := .iface t1 u1, val := .agg #[.int .u8 r.k.f0, .int .i64 r.k.f1, .string r.k.f2, .slice r.A r.k.f3.length r.ca, .int .i64 r.k.f4, .int .u8 y.f0, .int .i64 y.f1, .string y.f2, .slice B1 y.f3.length d1, .int .i64 y.f4, .int .i64 r.n] }) cl) = w9 at HPUT HX89 HMB9
  have gc0 := (blk_cell HG8.out 0).trans rfl
  have gc1 := (blk_cell HG8.out 1).trans rfl
  have gc2 := (blk_cell HG8.out 2).trans rfl
  have gf0 := blk_frozen HG8.out 0
  have gf1 := blk_frozen HG8.out 1
  have gf2 := blk_frozen HG8.out 2
  have gl := lt_of_blk HG8.out
  have pc0 := (blk_cell HP8.out 0).trans rfl
  have pc1 := (blk_cell HP8.out 1).trans rfl
  have pc2 := (blk_cell HP8.out 2).trans rfl
  have pc3 := (blk_cell HP8.out 3).trans rfl
  have pc4 := (blk_cell HP8.out 4).trans rfl
  have pc5 := (blk_cell HP8.out 5).trans rfl
  have pc6 := (blk_cell HP8.out 6).trans rfl
  have pc7 := (blk_cell HP8.out 7).trans rfl
  have pc8 := (blk_cell HP8.out 8).trans rfl
  have pc9 := (blk_cell HP8.out 9).trans rfl
  have pc10 := (blk_cell HP8.out 10).trans rfl
  have pf0 := blk_frozen HP8.out 0
  have pf1 := blk_frozen HP8.out 1
  have pf2 := blk_frozen HP8.out 2
  have pf3 := blk_frozen HP8.out 3
  have pf4 := blk_frozen HP8.out 4
  have pf5 := blk_frozen HP8.out 5
  have pf6 := blk_frozen HP8.out 6
  have pf7 := blk_frozen HP8.out 7
  have pf8 := blk_frozen HP8.out 8
  have pf9 := blk_frozen HP8.out 9
  have pf10 := blk_frozen HP8.out 10
  have pl := lt_of_blk HP8.out
  go_region
  clear HPUT
  clear gc0 gc1 gc2 gf0 gf1 gf2 gl
  clear pc0 pc1 pc2 pc3 pc4 pc5 pc6 pc7 pc8 pc9 pc10 pf0 pf1 pf2 pf3 pf4 pf5 pf6 pf7 pf8 pf9 pf10 pl
  have HB9 := Aside0.mk (HX89.out.blk HB8.out (fun e => by rw [← e] at HMB8; exact absurd (HMB8.out.symm.trans HB8.out) (by simp)))
  have bc0 := (blk_cell HB9.out 0).trans rfl
  have bc1 := (blk_cell HB9.out 1).trans rfl
  have bc2 := (blk_cell HB9.out 2).trans rfl
  have bc3 := (blk_cell HB9.out 3).trans rfl
  have bc4 := (blk_cell HB9.out 4).trans rfl
  have bf0 := blk_frozen HB9.out 0
  have bf1 := blk_frozen HB9.out 1
  have bf2 := blk_frozen HB9.out 2
  have bf3 := blk_frozen HB9.out 3
  have bf4 := blk_frozen HB9.out 4
  have bl := lt_of_blk HB9.out
  go_wp2_with fail
  have HX910 := Aside0.mk (ex_put27 (Ex.refl (fun b => b = w.heap.size + 1 + 1) w9) (.inl rfl) (.int .u8 r.v.f0) (.int .i64 r.v.f1) (.string r.v.f2) (.slice r.B r.v.f3.length r.cb) (.int .i64 r.v.f4))
  refine bodyPost_ret (results_row_tmp2 rfl _ _ (w.heap.size + 1 + 1) 27 _ (0, 0) _ rfl (put27 HB9.out rfl _ _ _ _ _) Try.underlying27 rfl size27) rfl ?_
  refine ⟨rfl, ?_⟩
  clear bc0 bc1 bc2 bc3 bc4 bf0 bf1 bf2 bf3 bf4 bl
  generalize (((((w9.setCell ⟨w.heap.size + 1 + 1, 0, none⟩ (.int .u8 r.v.f0)).setCell ⟨w.heap.size + 1 + 1, 1, none⟩ (.int .i64 r.v.f1)).setCell ⟨w.heap.size + 1 + 1, 2, none⟩ (.string r.v.f2)).setCell ⟨w.heap.size + 1 + 1, 3, none⟩ (.slice r.B r.v.f3.length r.cb)).setCell ⟨w.heap.size + 1 + 1, 4, none⟩ (.int .i64 r.v.f4)) = w10 at HX910 ⊢
  exact put_old_end HT.out HX3.out HX37.out HX78.out HX89.out HX910.out (lt_of_blk HB3.out) HRW.out.1 HRW.out.2 HMB9.out HES.out HU.out HN.out HL2.out HR29.out hs8

end Go.Proofs.Ythkemcekcfccpaa.PBrandCompares
