/- Put of a table, at a mark that is new to it. -/
import Derived.Test.YthkemcekcfccpaaBrandComparesT2e
import Derived.Test.YthkemcekcfccpaaBrandComparesT3
namespace Go.Proofs.Ythkemcekcfccpaa.PBrandCompares
open Go.RowKit Go.Proofs.YthkemcekcfccpaaW.PrintWords Go.Proofs.YthkemcekcfccpaaW.PrintLast Go.Proofs.YthkemcekcfccpaaW.PrintMore
open Go.Proofs.Ythkemcekcfccpaa.GBrandCompares
set_option linter.unusedVariables false
set_option linter.unusedSimpArgs false

set_option maxRecDepth 100000 in
set_option maxHeartbeats 4000000 in
theorem put_new (x y : S27) (A B : Option Addr) (c d g mb ob : Nat) (T ok : Nat → Prop) (rows : List Row) (came : Nat) (w : World) (h : Tab w g mb ob T rows came) (hcame : came < 1000000000) (hc : x.f3.length ≤ c) (hd : y.f3.length ≤ d) (hF : Kd.F k27 w ok A x.f3.length x.f3) (hF2 : Kd.F k27 w ok B y.f3.length y.f3) (hok : ∀ b, ok b → ¬ T b) (hm : mayV x = true) (hn : mayV y = true) (m : Mk) (hmk : ∀ m2, MarkOf x m2 → m2 = m) (hkey : Key m) (hp : posMk m (rows.map (·.m)) = none) : PUT x y A B c d g w fun e w' => e = .returned (.tuple #[zval, .bool false, .int .i64 0]) ∧ Ex (fun b => b = g ∨ b = mb ∨ b = ob) w w' ∧ ∃ r : Row, r.m = m ∧ r.k = x ∧ r.v = y ∧ r.n = came + 1 ∧ Tab w' g mb ob (fun b => T b ∨ w.heap.size ≤ b) (rows ++ [r]) (came + 1) := by
  have HT := Aside0.mk h
  have HG := Aside0.mk h.hg
  have HF := Aside0.mk (Kd.F_bound hF)
  have HF2 := Aside0.mk (Kd.F_bound hF2)
  have HM := Aside0.mk hm
  have HN := Aside0.mk hn
  have HMK := Aside0.mk hmk
  have HKEY := Aside0.mk hkey
  have HOK := Aside0.mk hok
  have HC := Aside0.mk (And.intro hc hd)
  have HP := Aside0.mk hp
  obtain ⟨i0, hi0, hz0, _, _⟩ := info_parts info78
  have HI := Aside0.mk (And.intro hi0 hz0)
  clear h hF hm hF2 hn hmk hkey hp hi0 hz0 hok hc hd
  unfold PUT
  go_enter Try.func15, Try.ntmps15
  go_wp2_with fail
  refine (none_no g mb _ _ _ (blk_alloc (blk_alloc (blk_alloc HG.out _) _) _)).mono ?_
  rintro e w1 ⟨rfl, rfl⟩
  go_wp2_with fail
  refine (may_calls x A c _ _ (Kd.F_alloc (Kd.F_alloc (Kd.F_alloc HF.out _) _) _)).mono ?_
  rintro e w1 ⟨rfl, hx1⟩
  have hm' := HM.out
  rw [hm']
  clear hm'
  have HG1 := Aside0.mk (hx1.blk (blk_alloc (blk_alloc (blk_alloc HG.out _) _) _) (fun h => h))
  have HK1 := Aside0.mk (hx1.blk (blk_alloc (blk_alloc (blk_new1 w _) _) _) (fun h => h))
  have HV1 := Aside0.mk (hx1.blk (blk_alloc (blk_new2 w _ _) _) (fun h => h))
  have HB1 := Aside0.mk (show w1.heap[w.heap.size + 1 + 1]? = some (.cells #[.int .u8 0, .int .i64 0, .string ⟨#[]⟩, .slice none 0 0, .int .i64 0] 27 (0, 0)) from hx1.blk (blk_new3 w _ _ _) (fun h => h))
  have HX1 := Aside0.mk (((((Ex.refl (fun _ => False) w).alloc _).alloc _).alloc _).trans hx1 (fun _ h => h.elim))
  clear hx1
  have vc0 := (blk_cell HV1.out 0).trans rfl
  have vc1 := (blk_cell HV1.out 1).trans rfl
  have vc2 := (blk_cell HV1.out 2).trans rfl
  have vc3 := (blk_cell HV1.out 3).trans rfl
  have vc4 := (blk_cell HV1.out 4).trans rfl
  have vf0 := blk_frozen HV1.out 0
  have vf1 := blk_frozen HV1.out 1
  have vf2 := blk_frozen HV1.out 2
  have vf3 := blk_frozen HV1.out 3
  have vf4 := blk_frozen HV1.out 4
  have vl := lt_of_blk HV1.out
  go_wp2_with fail
  refine (may_calls y B d _ _ (ex_F HX1.out HF2.out (fun _ _ h => h))).mono ?_
  rintro e w2 ⟨rfl, hx2⟩
  have hm' := HN.out
  rw [hm']
  clear hm'
  have HG2 := Aside0.mk (hx2.blk HG1.out (fun h => h))
  have HK2 := Aside0.mk (hx2.blk HK1.out (fun h => h))
  have HV2 := Aside0.mk (hx2.blk HV1.out (fun h => h))
  have HB2 := Aside0.mk (hx2.blk HB1.out (fun h => h))
  have HX2 := Aside0.mk (HX1.out.trans hx2 (fun _ h => h.elim))
  clear hx2
  clear vc0 vc1 vc2 vc3 vc4 vf0 vf1 vf2 vf3 vf4 vl
  have kc0 := (blk_cell HK2.out 0).trans rfl
  have kc1 := (blk_cell HK2.out 1).trans rfl
  have kc2 := (blk_cell HK2.out 2).trans rfl
  have kc3 := (blk_cell HK2.out 3).trans rfl
  have kc4 := (blk_cell HK2.out 4).trans rfl
  have kf0 := blk_frozen HK2.out 0
  have kf1 := blk_frozen HK2.out 1
  have kf2 := blk_frozen HK2.out 2
  have kf3 := blk_frozen HK2.out 3
  have kf4 := blk_frozen HK2.out 4
  have kl := lt_of_blk HK2.out
  go_wp2_with fail
  refine (find_key' x A c g mb _ _ _ _ HG2.out (ex_F HX2.out HF.out (fun _ _ h => h)) HM.out).mono ?_
  rintro e w3 ⟨m2, h1, h2, hx3, rfl⟩
  have hm2 := HMK.out m2 h1
  subst hm2
  have hk' := HKEY.out.1
  rw [hk']
  clear hk' h2
  have H1 := Aside0.mk h1
  clear h1
  have HG3 := Aside0.mk (hx3.blk HG2.out (fun h => h))
  have HK3 := Aside0.mk (hx3.blk HK2.out (fun h => h))
  have HV3 := Aside0.mk (hx3.blk HV2.out (fun h => h))
  have HB3 := Aside0.mk (hx3.blk HB2.out (fun h => h))
  have HX3 := Aside0.mk (HX2.out.trans hx3 (fun _ h => h.elim))
  have HT3 := Aside0.mk (HT.out.ex0 HX3.out)
  have HF3 := Aside0.mk (ex_F HX3.out HF.out (fun _ _ h => h))
  have HF23 := Aside0.mk (ex_F HX3.out HF2.out (fun _ _ h => h))
  clear hx3
  clear kc0 kc1 kc2 kc3 kc4 kf0 kf1 kf2 kf3 kf4 kl
  obtain ⟨es, cl, hmb, hes⟩ := HT3.out.hm
  have hlk := run_lookup 63 78 Try.underlying63 HI.out.1 HI.out.2 hmb HKEY.out (HT3.out.key_all) (HT3.out.keys_map hes) true
  rw [HP.out] at hlk
  have hlk' : (Instr.lookup 63 (.map (some mb)) m2.val true).run Try.prog w3 = .ok (.tuple #[.agg #[.int .u8 0, .int .i64 0, .string ⟨#[]⟩, .slice none 0 0, .int .i64 0, .int .u8 0, .int .i64 0, .string ⟨#[]⟩, .slice none 0 0, .int .i64 0, .int .i64 0], .bool false]) w3 := hlk
  have HMB3 := Aside0.mk hmb
  have HES := Aside0.mk hes
  clear hlk hmb hes
  obtain ⟨t1, u1, hu1⟩ := m2.val_iface
  rw [hu1]
  rw [hu1] at hlk'
  have HU := Aside0.mk hu1
  clear hu1
  have hcm : (came : Int) < 1000000000 := by omega
  have hcm0 : (0 : Int) ≤ (came : Int) := by omega
  have gc0 := (blk_cell HG3.out 0).trans rfl
  have gc1 := (blk_cell HG3.out 1).trans rfl
  have gc2 := (blk_cell HG3.out 2).trans rfl
  have gf0 := blk_frozen HG3.out 0
  have gf1 := blk_frozen HG3.out 1
  have gf2 := blk_frozen HG3.out 2
  have gl := lt_of_blk HG3.out
  have bc0 := (blk_cell HB3.out 0).trans rfl
  have bc1 := (blk_cell HB3.out 1).trans rfl
  have bc2 := (blk_cell HB3.out 2).trans rfl
  have bc3 := (blk_cell HB3.out 3).trans rfl
  have bc4 := (blk_cell HB3.out 4).trans rfl
  have bf0 := blk_frozen HB3.out 0
  have bf1 := blk_frozen HB3.out 1
  have bf2 := blk_frozen HB3.out 2
  have bf3 := blk_frozen HB3.out 3
  have bf4 := blk_frozen HB3.out 4
  have bl := lt_of_blk HB3.out
  have kc0 := (blk_cell HK3.out 0).trans rfl
  have kc1 := (blk_cell HK3.out 1).trans rfl
  have kc2 := (blk_cell HK3.out 2).trans rfl
  have kc3 := (blk_cell HK3.out 3).trans rfl
  have kc4 := (blk_cell HK3.out 4).trans rfl
  have kf0 := blk_frozen HK3.out 0
  have kf1 := blk_frozen HK3.out 1
  have kf2 := blk_frozen HK3.out 2
  have kf3 := blk_frozen HK3.out 3
  have kf4 := blk_frozen HK3.out 4
  have kl := lt_of_blk HK3.out
  go_wp2_with fail
  clear gc0 gc1 gc2 gf0 gf1 gf2 gl
  clear bc0 bc1 bc2 bc3 bc4 bf0 bf1 bf2 bf3 bf4 bl
  clear kc0 kc1 kc2 kc3 kc4 kf0 kf1 kf2 kf3 kf4 kl
  have hgl := lt_of_blk HG3.out
  have hbl := lt_of_blk HB3.out
  have hg0 : g < w.heap.size := lt_of_blk HG.out
  have HG4 := Aside0.mk (blk_alloc (blk_put HG3.out 2 (.int .i64 ((came : Int) + 1)) rfl) (.cells #[.int .u8 0, .int .i64 0, .string ⟨#[]⟩, .slice none 0 0, .int .i64 0, .int .u8 0, .int .i64 0, .string ⟨#[]⟩, .slice none 0 0, .int .i64 0, .int .i64 0] 78))
  have HP4 := Aside0.mk (show ((w3.setCell ⟨g, 2, none⟩ (.int .i64 ((came : Int) + 1))).alloc (.cells #[.int .u8 0, .int .i64 0, .string ⟨#[]⟩, .slice none 0 0, .int .i64 0, .int .u8 0, .int .i64 0, .string ⟨#[]⟩, .slice none 0 0, .int .i64 0, .int .i64 0] 78)).heap[w3.heap.size]? = some (.cells #[.int .u8 0, .int .i64 0, .string ⟨#[]⟩, .slice none 0 0, .int .i64 0, .int .u8 0, .int .i64 0, .string ⟨#[]⟩, .slice none 0 0, .int .i64 0, .int .i64 0] 78 (0, 0)) from by
    have h := blk_new1 (w3.setCell ⟨g, 2, none⟩ (.int .i64 ((came : Int) + 1))) (.cells #[.int .u8 0, .int .i64 0, .string ⟨#[]⟩, .slice none 0 0, .int .i64 0, .int .u8 0, .int .i64 0, .string ⟨#[]⟩, .slice none 0 0, .int .i64 0, .int .i64 0] 78)
    rw [show (w3.setCell ⟨g, 2, none⟩ (.int .i64 ((came : Int) + 1))).heap.size = w3.heap.size by simp [World.setCell]] at h
    exact h)
  have HX4 := Aside0.mk (((Ex.refl (fun b => b = g) w3).set (p := ⟨g, 2, none⟩) (.inl rfl) (.int .i64 ((came : Int) + 1))).alloc (.cells #[.int .u8 0, .int .i64 0, .string ⟨#[]⟩, .slice none 0 0, .int .i64 0, .int .u8 0, .int .i64 0, .string ⟨#[]⟩, .slice none 0 0, .int .i64 0, .int .i64 0] 78))
  have HK4 := Aside0.mk (HX4.out.blk HK3.out (show ¬ w.heap.size = g by omega))
  have HV4 := Aside0.mk (HX4.out.blk HV3.out (show ¬ w.heap.size + 1 = g by omega))
  have HB4 := Aside0.mk (HX4.out.blk HB3.out (show ¬ w.heap.size + 1 + 1 = g by omega))
  have HMB4 := Aside0.mk (HX4.out.blk HMB3.out (fun e => by rw [e] at HMB3; exact absurd (HMB3.out.symm.trans HG3.out) (by simp)))
  obtain ⟨es2, cl2, hob, hes2⟩ := HT3.out.ho
  have HOB4 := Aside0.mk (HX4.out.blk hob (fun e => by rw [e] at hob; exact absurd (hob.symm.trans HG3.out) (by simp)))
  have HOB3 := Aside0.mk hob
  have HES2 := Aside0.mk hes2
  clear hob hes2
  have HF4 := Aside0.mk (ex_F HX4.out HF3.out (fun b hb e => HOK.out b hb.1 (by rw [e]; exact HT.out.tg)))
  have HF24 := Aside0.mk (ex_F HX4.out HF23.out (fun b hb e => HOK.out b hb.1 (by rw [e]; exact HT.out.tg)))
  generalize ((w3.setCell ⟨g, 2, none⟩ (.int .i64 ((came : Int) + 1))).alloc (.cells #[.int .u8 0, .int .i64 0, .string ⟨#[]⟩, .slice none 0 0, .int .i64 0, .int .u8 0, .int .i64 0, .string ⟨#[]⟩, .slice none 0 0, .int .i64 0, .int .i64 0] 78)) = w4 at HG4 HP4 HX4 HK4 HV4 HB4 HMB4 HOB4 HF4 HF24 ⊢
  have gc0 := (blk_cell HG4.out 0).trans rfl
  have gc1 := (blk_cell HG4.out 1).trans rfl
  have gc2 := (blk_cell HG4.out 2).trans rfl
  have gf0 := blk_frozen HG4.out 0
  have gf1 := blk_frozen HG4.out 1
  have gf2 := blk_frozen HG4.out 2
  have gl := lt_of_blk HG4.out
  have kc0 := (blk_cell HK4.out 0).trans rfl
  have kc1 := (blk_cell HK4.out 1).trans rfl
  have kc2 := (blk_cell HK4.out 2).trans rfl
  have kc3 := (blk_cell HK4.out 3).trans rfl
  have kc4 := (blk_cell HK4.out 4).trans rfl
  have kf0 := blk_frozen HK4.out 0
  have kf1 := blk_frozen HK4.out 1
  have kf2 := blk_frozen HK4.out 2
  have kf3 := blk_frozen HK4.out 3
  have kf4 := blk_frozen HK4.out 4
  have kl := lt_of_blk HK4.out
  have pc0 := (blk_cell HP4.out 0).trans rfl
  have pc1 := (blk_cell HP4.out 1).trans rfl
  have pc2 := (blk_cell HP4.out 2).trans rfl
  have pc3 := (blk_cell HP4.out 3).trans rfl
  have pc4 := (blk_cell HP4.out 4).trans rfl
  have pc5 := (blk_cell HP4.out 5).trans rfl
  have pc6 := (blk_cell HP4.out 6).trans rfl
  have pc7 := (blk_cell HP4.out 7).trans rfl
  have pc8 := (blk_cell HP4.out 8).trans rfl
  have pc9 := (blk_cell HP4.out 9).trans rfl
  have pc10 := (blk_cell HP4.out 10).trans rfl
  have pf0 := blk_frozen HP4.out 0
  have pf1 := blk_frozen HP4.out 1
  have pf2 := blk_frozen HP4.out 2
  have pf3 := blk_frozen HP4.out 3
  have pf4 := blk_frozen HP4.out 4
  have pf5 := blk_frozen HP4.out 5
  have pf6 := blk_frozen HP4.out 6
  have pf7 := blk_frozen HP4.out 7
  have pf8 := blk_frozen HP4.out 8
  have pf9 := blk_frozen HP4.out 9
  have pf10 := blk_frozen HP4.out 10
  have pl := lt_of_blk HP4.out
  go_region_law (first
    | (refine goes_ Try.func40 (by kernel_rfl) rfl #[.agg #[.int .u8 x.f0, .int .i64 x.f1, .string x.f2, .slice A x.f3.length c, .int .i64 x.f4]] (by rfl) rfl rfl (by (try simp only [List.map_toArray, List.map_cons, List.map_nil]); first | done | rfl) ?_; refine (own_calls x A c _ (fun k => ok k ∧ k < w.heap.size) HC.out.1 ?_ HM.out).mono ?_; exact Kd.F_drew HF4.out; rintro e w5 ⟨v, rfl, A1, c1, rfl, l1, hR, hx5⟩; refine ⟨_, rfl, ?_⟩; have HR5 := Aside0.mk (And.intro l1 hR); have HG5 := Aside0.mk (hx5.blk (blk_drew HG4.out) (fun h => h)); have HP5 := Aside0.mk (hx5.blk (blk_drew HP4.out) (fun h => h)); have HX5 := Aside0.mk hx5; clear l1 hR hx5; have qc0 := (blk_cell HG5.out 0).trans rfl; have qc1 := (blk_cell HG5.out 1).trans rfl; have qc2 := (blk_cell HG5.out 2).trans rfl; have qf0 := blk_frozen HG5.out 0; have qf1 := blk_frozen HG5.out 1; have qf2 := blk_frozen HG5.out 2; have ql := lt_of_blk HG5.out; have rc0 := (blk_cell HP5.out 0).trans rfl; have rc1 := (blk_cell HP5.out 1).trans rfl; have rc2 := (blk_cell HP5.out 2).trans rfl; have rc3 := (blk_cell HP5.out 3).trans rfl; have rc4 := (blk_cell HP5.out 4).trans rfl; have rc5 := (blk_cell HP5.out 5).trans rfl; have rc6 := (blk_cell HP5.out 6).trans rfl; have rc7 := (blk_cell HP5.out 7).trans rfl; have rc8 := (blk_cell HP5.out 8).trans rfl; have rc9 := (blk_cell HP5.out 9).trans rfl; have rc10 := (blk_cell HP5.out 10).trans rfl; have rf0 := blk_frozen HP5.out 0; have rf1 := blk_frozen HP5.out 1; have rf2 := blk_frozen HP5.out 2; have rf3 := blk_frozen HP5.out 3; have rf4 := blk_frozen HP5.out 4; have rf5 := blk_frozen HP5.out 5; have rf6 := blk_frozen HP5.out 6; have rf7 := blk_frozen HP5.out 7; have rf8 := blk_frozen HP5.out 8; have rf9 := blk_frozen HP5.out 9; have rf10 := blk_frozen HP5.out 10; have rl := lt_of_blk HP5.out))
  all_goals
    clear qc0 qc1 qc2 qf0 qf1 qf2 ql
    clear rc0 rc1 rc2 rc3 rc4 rc5 rc6 rc7 rc8 rc9 rc10 rf0 rf1 rf2 rf3 rf4 rf5 rf6 rf7 rf8 rf9 rf10 rl
    clear gc0 gc1 gc2 gf0 gf1 gf2 gl
    clear kc0 kc1 kc2 kc3 kc4 kf0 kf1 kf2 kf3 kf4 kl
    clear pc0 pc1 pc2 pc3 pc4 pc5 pc6 pc7 pc8 pc9 pc10 pf0 pf1 pf2 pf3 pf4 pf5 pf6 pf7 pf8 pf9 pf10 pl
    have hpl := lt_of_blk HP4.out
    have HS6 := Aside0.mk (ex_put78 (Ex.refl (fun b => b = w3.heap.size) w5) (.inl rfl) (.int .u8 x.f0) (.int .i64 x.f1) (.string x.f2) (.slice A1 x.f3.length c1) (.int .i64 x.f4) (.int .u8 0) (.int .i64 0) (.string ⟨#[]⟩) (.slice none 0 0) (.int .i64 0) (.int .i64 ((came : Int) + 1)))
    have HP6 := Aside0.mk (put78 HP5.out (.int .u8 x.f0) (.int .i64 x.f1) (.string x.f2) (.slice A1 x.f3.length c1) (.int .i64 x.f4) (.int .u8 0) (.int .i64 0) (.string ⟨#[]⟩) (.slice none 0 0) (.int .i64 0) (.int .i64 ((came : Int) + 1)))
    have HX46 := Aside0.mk ((((Ex.refl (fun b => b = w3.heap.size) w4).drew).trans HX5.out (fun _ h => h.elim)).trans HS6.out (fun b hb => .inl hb))
    have HR6 := Aside0.mk (Kd.R_mono (Kd.R_step (Kd.R_mono (Kd.R_bound HR5.out.2) (fun b hb => (show w4.heap.size ≤ b from hb.1))) (fun b hb _ => HS6.out.block b (by assumption) (show ¬ b = w3.heap.size by omega))) (fun b hb => hb))
    have HL1 := Aside0.mk HR5.out.1
    clear HR5
    generalize (((((((((((w5.setCell ⟨w3.heap.size, 0, none⟩ (.int .u8 x.f0)).setCell ⟨w3.heap.size, 1, none⟩ (.int .i64 x.f1)).setCell ⟨w3.heap.size, 2, none⟩ (.string x.f2)).setCell ⟨w3.heap.size, 3, none⟩ (.slice A1 x.f3.length c1)).setCell ⟨w3.heap.size, 4, none⟩ (.int .i64 x.f4)).setCell ⟨w3.heap.size, 5, none⟩ (.int .u8 0)).setCell ⟨w3.heap.size, 6, none⟩ (.int .i64 0)).setCell ⟨w3.heap.size, 7, none⟩ (.string ⟨#[]⟩)).setCell ⟨w3.heap.size, 8, none⟩ (.slice none 0 0)).setCell ⟨w3.heap.size, 9, none⟩ (.int .i64 0)).setCell ⟨w3.heap.size, 10, none⟩ (.int .i64 ((came : Int) + 1))) = w6 at HS6 HP6 HX46 HR6 ⊢
    clear HS6 HP5 HG5 HX5
    have HG6 := Aside0.mk (HX46.out.blk HG4.out (show ¬ g = w3.heap.size by omega))
    have HV6 := Aside0.mk (HX46.out.blk HV4.out (show ¬ w.heap.size + 1 = w3.heap.size by omega))
    have HB6 := Aside0.mk (HX46.out.blk HB4.out (show ¬ w.heap.size + 1 + 1 = w3.heap.size by omega))
    have HMB6 := Aside0.mk (HX46.out.blk HMB4.out (show ¬ mb = w3.heap.size by have := lt_of_blk HMB3.out; omega))
    have HOB6 := Aside0.mk (HX46.out.blk HOB4.out (show ¬ ob = w3.heap.size by have := lt_of_blk HOB3.out; omega))
    have HF26 := Aside0.mk (ex_F HX46.out HF24.out (fun b hb => show ¬ b = w3.heap.size by have := hb.2; omega))
    have HUP := run_order (blk_drew HOB6.out) HES2.out HT3.out.nums (.iface t1 u1)
    have HX67 := Aside0.mk (ex_setB ((Ex.refl (fun b => b = ob) w6).drew) (.inl rfl) (.map (es2.push { key := .int .i64 ((came : Int) + 1), val := .iface t1 u1, born := cl2 }) (cl2 + 1)))
    have HOB7 := Aside0.mk (setB_blk (o' := .map (es2.push { key := .int .i64 ((came : Int) + 1), val := .iface t1 u1, born := cl2 }) (cl2 + 1)) (blk_drew HOB6.out))
    generalize setB w6.drew ob (.map (es2.push { key := .int .i64 ((came : Int) + 1), val := .iface t1 u1, born := cl2 }) (cl2 + 1)) = w7 at HUP HX67 HOB7
    have gc0 := (blk_cell HG6.out 0).trans rfl
    have gc1 := (blk_cell HG6.out 1).trans rfl
    have gc2 := (blk_cell HG6.out 2).trans rfl
    have gf0 := blk_frozen HG6.out 0
    have gf1 := blk_frozen HG6.out 1
    have gf2 := blk_frozen HG6.out 2
    have gl := lt_of_blk HG6.out
    go_wp2
    go_region
    clear HUP
    have HG7 := Aside0.mk (HX67.out.blk HG6.out (fun e => by rw [← e] at HOB6; exact absurd (HOB6.out.symm.trans HG6.out) (by simp)))
    have HP7 := Aside0.mk (HX67.out.blk HP6.out (fun e => by rw [← e] at HOB6; exact absurd (HOB6.out.symm.trans HP6.out) (by simp)))
    have HV7 := Aside0.mk (HX67.out.blk HV6.out (fun e => by rw [← e] at HOB6; exact absurd (HOB6.out.symm.trans HV6.out) (by simp)))
    have HB7 := Aside0.mk (HX67.out.blk HB6.out (fun e => by rw [← e] at HOB6; exact absurd (HOB6.out.symm.trans HB6.out) (by simp)))
    have HMB7 := Aside0.mk (HX67.out.blk HMB6.out HT.out.ne)
    have HF27 := Aside0.mk (ex_F HX67.out HF26.out (fun b hb e => HOK.out b hb.1 (by rw [e]; exact HT.out.tb)))
    have HR7 := Aside0.mk (Kd.R_step HR6.out (fun b hb _ => HX67.out.block b (by assumption) (fun e => by have := lt_of_blk HOB4.out; rw [e] at hb; omega)))
    clear gc0 gc1 gc2 gf0 gf1 gf2 gl
    have pc0 := (blk_cell HP7.out 0).trans rfl
    have pc1 := (blk_cell HP7.out 1).trans rfl
    have pc2 := (blk_cell HP7.out 2).trans rfl
    have pc3 := (blk_cell HP7.out 3).trans rfl
    have pc4 := (blk_cell HP7.out 4).trans rfl
    have pc5 := (blk_cell HP7.out 5).trans rfl
    have pc6 := (blk_cell HP7.out 6).trans rfl
    have pc7 := (blk_cell HP7.out 7).trans rfl
    have pc8 := (blk_cell HP7.out 8).trans rfl
    have pc9 := (blk_cell HP7.out 9).trans rfl
    have pc10 := (blk_cell HP7.out 10).trans rfl
    have pf0 := blk_frozen HP7.out 0
    have pf1 := blk_frozen HP7.out 1
    have pf2 := blk_frozen HP7.out 2
    have pf3 := blk_frozen HP7.out 3
    have pf4 := blk_frozen HP7.out 4
    have pf5 := blk_frozen HP7.out 5
    have pf6 := blk_frozen HP7.out 6
    have pf7 := blk_frozen HP7.out 7
    have pf8 := blk_frozen HP7.out 8
    have pf9 := blk_frozen HP7.out 9
    have pf10 := blk_frozen HP7.out 10
    have pl := lt_of_blk HP7.out
    have vc0 := (blk_cell HV7.out 0).trans rfl
    have vc1 := (blk_cell HV7.out 1).trans rfl
    have vc2 := (blk_cell HV7.out 2).trans rfl
    have vc3 := (blk_cell HV7.out 3).trans rfl
    have vc4 := (blk_cell HV7.out 4).trans rfl
    have vf0 := blk_frozen HV7.out 0
    have vf1 := blk_frozen HV7.out 1
    have vf2 := blk_frozen HV7.out 2
    have vf3 := blk_frozen HV7.out 3
    have vf4 := blk_frozen HV7.out 4
    have vl := lt_of_blk HV7.out
    have bc0 := (blk_cell HB7.out 0).trans rfl
    have bc1 := (blk_cell HB7.out 1).trans rfl
    have bc2 := (blk_cell HB7.out 2).trans rfl
    have bc3 := (blk_cell HB7.out 3).trans rfl
    have bc4 := (blk_cell HB7.out 4).trans rfl
    have bf0 := blk_frozen HB7.out 0
    have bf1 := blk_frozen HB7.out 1
    have bf2 := blk_frozen HB7.out 2
    have bf3 := blk_frozen HB7.out 3
    have bf4 := blk_frozen HB7.out 4
    have bl := lt_of_blk HB7.out
    go_wp2_with fail
    have HX78 := Aside0.mk (ex_put27 (Ex.refl (fun b => b = w.heap.size + 1 + 1) w7) (.inl rfl) (.int .u8 0) (.int .i64 0) (.string ⟨#[]⟩) (.slice none 0 0) (.int .i64 0))
    have HB8 := Aside0.mk (put27 HB7.out rfl (.int .u8 0) (.int .i64 0) (.string ⟨#[]⟩) (.slice none 0 0) (.int .i64 0))
    refine (own_calls y B d _ (fun k => ok k ∧ k < w.heap.size) HC.out.2 (ex_F HX78.out HF27.out (fun b hb => show ¬ b = w.heap.size + 1 + 1 by have := hb.2; omega)) HN.out).mono ?_
    rintro e w9 ⟨v, rfl, B1, d1, rfl, l2, hR2, hx9⟩
    have HL2 := Aside0.mk l2
    have HX79 := Aside0.mk (HX78.out.trans hx9 (fun _ h => h.elim))
    have HB9 := Aside0.mk (hx9.blk HB8.out (fun h => h))
    have HR29 := Aside0.mk hR2
    have hs8 : w7.heap.size ≤ ((((((w7.setCell ⟨w.heap.size + 1 + 1, 0, none⟩ (.int .u8 0)).setCell ⟨w.heap.size + 1 + 1, 1, none⟩ (.int .i64 0)).setCell ⟨w.heap.size + 1 + 1, 2, none⟩ (.string ⟨#[]⟩)).setCell ⟨w.heap.size + 1 + 1, 3, none⟩ (.slice none 0 0)).setCell ⟨w.heap.size + 1 + 1, 4, none⟩ (.int .i64 0))).heap.size := HX78.out.size
    have hs8' : ((((((w7.setCell ⟨w.heap.size + 1 + 1, 0, none⟩ (.int .u8 0)).setCell ⟨w.heap.size + 1 + 1, 1, none⟩ (.int .i64 0)).setCell ⟨w.heap.size + 1 + 1, 2, none⟩ (.string ⟨#[]⟩)).setCell ⟨w.heap.size + 1 + 1, 3, none⟩ (.slice none 0 0)).setCell ⟨w.heap.size + 1 + 1, 4, none⟩ (.int .i64 0))).heap.size ≤ w9.heap.size := hx9.size
    clear HX78 HB8 hx9 hR2 l2
    generalize (((((w7.setCell ⟨w.heap.size + 1 + 1, 0, none⟩ (.int .u8 0)).setCell ⟨w.heap.size + 1 + 1, 1, none⟩ (.int .i64 0)).setCell ⟨w.heap.size + 1 + 1, 2, none⟩ (.string ⟨#[]⟩)).setCell ⟨w.heap.size + 1 + 1, 3, none⟩ (.slice none 0 0)).setCell ⟨w.heap.size + 1 + 1, 4, none⟩ (.int .i64 0)) = w8 at HR29 hs8 hs8'
    clear pc0 pc1 pc2 pc3 pc4 pc5 pc6 pc7 pc8 pc9 pc10 pf0 pf1 pf2 pf3 pf4 pf5 pf6 pf7 pf8 pf9 pf10 pl
    clear vc0 vc1 vc2 vc3 vc4 vf0 vf1 vf2 vf3 vf4 vl
    clear bc0 bc1 bc2 bc3 bc4 bf0 bf1 bf2 bf3 bf4 bl
    have HG9 := Aside0.mk (HX79.out.blk HG7.out (show ¬ g = w.heap.size + 1 + 1 by omega))
    have HP9 := Aside0.mk (HX79.out.blk HP7.out (show ¬ w3.heap.size = w.heap.size + 1 + 1 by omega))
    have HMB9 := Aside0.mk (HX79.out.blk HMB7.out (show ¬ mb = w.heap.size + 1 + 1 by rintro rfl; exact absurd (HMB7.out.symm.trans HB7.out) (by simp)))
    have HOB9 := Aside0.mk (HX79.out.blk HOB7.out (show ¬ ob = w.heap.size + 1 + 1 by rintro rfl; exact absurd (HOB7.out.symm.trans HB7.out) (by simp)))
    have HR9 := Aside0.mk (Kd.R_step HR7.out (fun b hb _ => HX79.out.block b (by assumption) (show ¬ b = w.heap.size + 1 + 1 by have := lt_of_blk HB4.out; omega)))
    have pc0 := (blk_cell HP9.out 0).trans rfl
    have pc1 := (blk_cell HP9.out 1).trans rfl
    have pc2 := (blk_cell HP9.out 2).trans rfl
    have pc3 := (blk_cell HP9.out 3).trans rfl
    have pc4 := (blk_cell HP9.out 4).trans rfl
    have pc5 := (blk_cell HP9.out 5).trans rfl
    have pc6 := (blk_cell HP9.out 6).trans rfl
    have pc7 := (blk_cell HP9.out 7).trans rfl
    have pc8 := (blk_cell HP9.out 8).trans rfl
    have pc9 := (blk_cell HP9.out 9).trans rfl
    have pc10 := (blk_cell HP9.out 10).trans rfl
    have pf0 := blk_frozen HP9.out 0
    have pf1 := blk_frozen HP9.out 1
    have pf2 := blk_frozen HP9.out 2
    have pf3 := blk_frozen HP9.out 3
    have pf4 := blk_frozen HP9.out 4
    have pf5 := blk_frozen HP9.out 5
    have pf6 := blk_frozen HP9.out 6
    have pf7 := blk_frozen HP9.out 7
    have pf8 := blk_frozen HP9.out 8
    have pf9 := blk_frozen HP9.out 9
    have pf10 := blk_frozen HP9.out 10
    have pl := lt_of_blk HP9.out
    have bc0 := (blk_cell HB9.out 0).trans rfl
    have bc1 := (blk_cell HB9.out 1).trans rfl
    have bc2 := (blk_cell HB9.out 2).trans rfl
    have bc3 := (blk_cell HB9.out 3).trans rfl
    have bc4 := (blk_cell HB9.out 4).trans rfl
    have bf0 := blk_frozen HB9.out 0
    have bf1 := blk_frozen HB9.out 1
    have bf2 := blk_frozen HB9.out 2
    have bf3 := blk_frozen HB9.out 3
    have bf4 := blk_frozen HB9.out 4
    have bl := lt_of_blk HB9.out
    go_wp2_with fail
    clear pc0 pc1 pc2 pc3 pc4 pc5 pc6 pc7 pc8 pc9 pc10 pf0 pf1 pf2 pf3 pf4 pf5 pf6 pf7 pf8 pf9 pf10 pl
    clear bc0 bc1 bc2 bc3 bc4 bf0 bf1 bf2 bf3 bf4 bl
    have HX910 := Aside0.mk (ex_put78v (Ex.refl (fun b => b = w3.heap.size) w9) (.inl rfl) (.int .u8 y.f0) (.int .i64 y.f1) (.string y.f2) (.slice B1 y.f3.length d1) (.int .i64 y.f4))
    have HP10 := Aside0.mk (put78v HP9.out (.int .u8 y.f0) (.int .i64 y.f1) (.string y.f2) (.slice B1 y.f3.length d1) (.int .i64 y.f4))
    generalize (((((w9.setCell ⟨w3.heap.size, 5, none⟩ (.int .u8 y.f0)).setCell ⟨w3.heap.size, 6, none⟩ (.int .i64 y.f1)).setCell ⟨w3.heap.size, 7, none⟩ (.string y.f2)).setCell ⟨w3.heap.size, 8, none⟩ (.slice B1 y.f3.length d1)).setCell ⟨w3.heap.size, 9, none⟩ (.int .i64 y.f4)) = w10 at HX910 HP10 ⊢
    have HG10 := Aside0.mk (HX910.out.blk HG9.out (show ¬ g = w3.heap.size by omega))
    have HB10 := Aside0.mk (HX910.out.blk HB9.out (show ¬ w.heap.size + 1 + 1 = w3.heap.size by omega))
    have HMB10 := Aside0.mk (HX910.out.blk HMB9.out (show ¬ mb = w3.heap.size by have := lt_of_blk HMB3.out; omega))
    have HOB10 := Aside0.mk (HX910.out.blk HOB9.out (show ¬ ob = w3.heap.size by have := lt_of_blk HOB3.out; omega))
    have HPUT := run_new (blk_drew HMB10.out) HKEY.out (HT3.out.key_all) (HT3.out.keys_map HES.out) HP.out (.agg #[.int .u8 x.f0, .int .i64 x.f1, .string x.f2, .slice A1 x.f3.length c1, .int .i64 x.f4, .int .u8 y.f0, .int .i64 y.f1, .string y.f2, .slice B1 y.f3.length d1, .int .i64 y.f4, .int .i64 ((came : Int) + 1)])
    rw [HU.out] at HPUT
    have HX1011 := Aside0.mk (ex_setB ((Ex.refl (fun b => b = mb) w10).drew) (.inl rfl) (.map (es.push { key := .iface t1 u1, val := .agg #[.int .u8 x.f0, .int .i64 x.f1, .string x.f2, .slice A1 x.f3.length c1, .int .i64 x.f4, .int .u8 y.f0, .int .i64 y.f1, .string y.f2, .slice B1 y.f3.length d1, .int .i64 y.f4, .int .i64 ((came : Int) + 1)], born := cl }) (cl + 1)))
    have HMB11 := Aside0.mk (setB_blk (o' := .map (es.push { key := .iface t1 u1, val := .agg #[.int .u8 x.f0, .int .i64 x.f1, .string x.f2, .slice A1 x.f3.length c1, .int .i64 x.f4, .int .u8 y.f0, .int .i64 y.f1, .string y.f2, .slice B1 y.f3.length d1, .int .i64 y.f4, .int .i64 ((came : Int) + 1)], born := cl }) (cl + 1)) (blk_drew HMB10.out))
    generalize setB w10.drew mb (.map (es.push { key := .iface t1 u1, val := .agg #[.int .u8 x.f0, .int .i64 x.f1, .string x.f2, .slice A1 x.f3.length c1, .int .i64 x.f4, .int .u8 y.f0, .int .i64 y.f1, .string y.f2, .slice B1 y.f3.length d1, .int .i64 y.f4, .int .i64 ((came : Int) + 1)], born := cl }) (cl + 1)) = w11 at HPUT HX1011 HMB11
    have gc0 := (blk_cell HG10.out 0).trans rfl
    have gc1 := (blk_cell HG10.out 1).trans rfl
    have gc2 := (blk_cell HG10.out 2).trans rfl
    have gf0 := blk_frozen HG10.out 0
    have gf1 := blk_frozen HG10.out 1
    have gf2 := blk_frozen HG10.out 2
    have gl := lt_of_blk HG10.out
    have pc0 := (blk_cell HP10.out 0).trans rfl
    have pc1 := (blk_cell HP10.out 1).trans rfl
    have pc2 := (blk_cell HP10.out 2).trans rfl
    have pc3 := (blk_cell HP10.out 3).trans rfl
    have pc4 := (blk_cell HP10.out 4).trans rfl
    have pc5 := (blk_cell HP10.out 5).trans rfl
    have pc6 := (blk_cell HP10.out 6).trans rfl
    have pc7 := (blk_cell HP10.out 7).trans rfl
    have pc8 := (blk_cell HP10.out 8).trans rfl
    have pc9 := (blk_cell HP10.out 9).trans rfl
    have pc10 := (blk_cell HP10.out 10).trans rfl
    have pf0 := blk_frozen HP10.out 0
    have pf1 := blk_frozen HP10.out 1
    have pf2 := blk_frozen HP10.out 2
    have pf3 := blk_frozen HP10.out 3
    have pf4 := blk_frozen HP10.out 4
    have pf5 := blk_frozen HP10.out 5
    have pf6 := blk_frozen HP10.out 6
    have pf7 := blk_frozen HP10.out 7
    have pf8 := blk_frozen HP10.out 8
    have pf9 := blk_frozen HP10.out 9
    have pf10 := blk_frozen HP10.out 10
    have pl := lt_of_blk HP10.out
    go_region
    clear HPUT
    clear gc0 gc1 gc2 gf0 gf1 gf2 gl
    clear pc0 pc1 pc2 pc3 pc4 pc5 pc6 pc7 pc8 pc9 pc10 pf0 pf1 pf2 pf3 pf4 pf5 pf6 pf7 pf8 pf9 pf10 pl
    have HG11 := Aside0.mk (HX1011.out.blk HG10.out (fun e => by rw [← e] at HMB10; exact absurd (HMB10.out.symm.trans HG10.out) (by simp)))
    have HB11 := Aside0.mk (HX1011.out.blk HB10.out (fun e => by rw [← e] at HMB10; exact absurd (HMB10.out.symm.trans HB10.out) (by simp)))
    have HOB11 := Aside0.mk (HX1011.out.blk HOB10.out (Ne.symm HT.out.ne))
    have bc0 := (blk_cell HB11.out 0).trans rfl
    have bc1 := (blk_cell HB11.out 1).trans rfl
    have bc2 := (blk_cell HB11.out 2).trans rfl
    have bc3 := (blk_cell HB11.out 3).trans rfl
    have bc4 := (blk_cell HB11.out 4).trans rfl
    have bf0 := blk_frozen HB11.out 0
    have bf1 := blk_frozen HB11.out 1
    have bf2 := blk_frozen HB11.out 2
    have bf3 := blk_frozen HB11.out 3
    have bf4 := blk_frozen HB11.out 4
    have bl := lt_of_blk HB11.out
    go_wp2_with fail
    have HX1112 := Aside0.mk (ex_put27 (Ex.refl (fun b => b = w.heap.size + 1 + 1) w11) (.inl rfl) (.int .u8 0) (.int .i64 0) (.string ⟨#[]⟩) (.slice none 0 0) (.int .i64 0))
    refine bodyPost_ret (results_row_tmp2 rfl _ _ (w.heap.size + 1 + 1) 27 _ (0, 0) _ rfl (put27 HB11.out rfl _ _ _ _ _) Try.underlying27 rfl size27) rfl ?_
    refine ⟨rfl, ?_⟩
    clear bc0 bc1 bc2 bc3 bc4 bf0 bf1 bf2 bf3 bf4 bl
    generalize (((((w11.setCell ⟨w.heap.size + 1 + 1, 0, none⟩ (.int .u8 0)).setCell ⟨w.heap.size + 1 + 1, 1, none⟩ (.int .i64 0)).setCell ⟨w.heap.size + 1 + 1, 2, none⟩ (.string ⟨#[]⟩)).setCell ⟨w.heap.size + 1 + 1, 3, none⟩ (.slice none 0 0)).setCell ⟨w.heap.size + 1 + 1, 4, none⟩ (.int .i64 0)) = w12 at HX1112 ⊢
    exact put_new_end HT.out HX3.out HX4.out (lt_of_blk HP4.out) HX46.out HX67.out HX79.out HX910.out HX1011.out HX1112.out (lt_of_blk HB3.out) HG11.out rfl HMB11.out HOB11.out HES.out HES2.out HU.out H1.out HKEY.out HP.out HM.out HN.out HL1.out HL2.out HR9.out HR29.out hs8

end Go.Proofs.Ythkemcekcfccpaa.PBrandCompares
