/-
  Put of a table, at a mark that is new to it.
  The values that the laws make: a number, a text, a list.
  'Compare' of package brand.
  Marks in plain Lean: one value has one mark, but for what stands in rows.
  Values of plain Lean: when two are one; their shapes; plain ones are compared by their marks.
  Arguments: values that are read as data are values of plain Lean (S27), well formed.
  'alike' of the laws: the contract that print.sh has printed for function 16, laid into this family's namespace.
-/
import Derived.Test.YthkemcekcfccpaaBrandComparesR4M1
import Derived.Deep.Slices
import Derived.ChangeMaps5
import Derived.WideShapes
import Derived.Test.YthkemcekcfccpaaPBrandComparesx0
namespace Go.Proofs.Ythkemcekcfccpaa.PBrandCompares
open Go.RowKit Go.Proofs.YthkemcekcfccpaaW.PrintWords Go.Proofs.YthkemcekcfccpaaW.PrintLast Go.Proofs.YthkemcekcfccpaaW.PrintMore
open Go.Proofs.Ythkemcekcfccpaa.GBrandCompares
set_option linter.unusedVariables false
set_option linter.unusedSimpArgs false

set_option maxRecDepth 100000 in
set_option maxHeartbeats 4000000 in
theorem put_new (x y : S27) (A B : Option Addr) (c d g mb ob : Nat) (T ok : Nat → Prop) (rows : List Row) (came : Nat) (w : World) (h : Tab w g mb ob T rows came) (hcame : came < 1000000000) (hc : x.f3.length ≤ c) (hd : y.f3.length ≤ d) (hF : Kd.F k27 w ok A x.f3.length x.f3) (hF2 : Kd.F k27 w ok B y.f3.length y.f3) (hok : ∀ b, ok b → ¬ T b) (hm : mayV x = true) (hn : mayV y = true) (m : Mk) (hmk : ∀ m2, MarkOf x m2 → m2 = m) (hkey : Key m) (hp : posMk m (rows.map (·.m)) = none) : PUT x y A B c d g w fun e w' => e = .returned (.tuple #[zval, .bool false, .int .i64 0]) ∧ Ex (fun b => b = g ∨ b = mb ∨ b = ob) w w' ∧ ∃ r : Row, r.m = m ∧ r.k = x ∧ r.v = y ∧ r.n = came + 1 ∧ Tab w' g mb ob (fun b => T b ∨ w.heap.size ≤ b) (rows ++ [r]) (came + 1) := by
  have HT := Aside0.mk h
  have HG := Aside0.mk h.hg
  have HF := Aside0.mk (Kd.F_bound hF)
  have HF2 := Aside0.mk (Kd.F_bound hF2)
  have HM := Aside0.mk hm
  have HN := Aside0.mk hn
  have HMK := Aside0.mk hmk
  have HKEY := Aside0.mk hkey
  have HOK := Aside0.mk hok
  have HC := Aside0.mk (And.intro hc hd)
  have HP := Aside0.mk hp
  obtain ⟨i0, hi0, hz0, _, _⟩ := info_parts info78
  have HI := Aside0.mk (And.intro hi0 hz0)
  clear h hF hm hF2 hn hmk hkey hp hi0 hz0 hok hc hd
  unfold PUT
  go_enter Try.func15, Try.ntmps15
  go_wp2_with fail
  refine (none_no g mb _ _ _ (blk_alloc (blk_alloc (blk_alloc HG.out _) _) _)).mono ?_
  rintro e w1 ⟨rfl, rfl⟩
  go_wp2_with fail
  refine (may_calls x A c _ _ (Kd.F_alloc (Kd.F_alloc (Kd.F_alloc HF.out _) _) _)).mono ?_
  rintro e w1 ⟨rfl, hx1⟩
  have hm' := HM.out
  rw [hm']
  clear hm'
  have HG1 := Aside0.mk (hx1.blk (blk_alloc (blk_alloc (blk_alloc HG.out _) _) _) (fun h => h))
  have HK1 := Aside0.mk (hx1.blk (blk_alloc (blk_alloc (blk_new1 w _) _) _) (fun h => h))
  have HV1 := Aside0.mk (hx1.blk (blk_alloc (blk_new2 w _ _) _) (fun h => h))
  have HB1 := Aside0.mk (show w1.heap[w.heap.size + 1 + 1]? = some (.cells #[.int .u8 0, .int .i64 0, .string ⟨#[]⟩, .slice none 0 0, .int .i64 0] 27 (0, 0)) from hx1.blk (blk_new3 w _ _ _) (fun h => h))
  have HX1 := Aside0.mk (((((Ex.refl (fun _ => False) w).alloc _).alloc _).alloc _).trans hx1 (fun _ h => h.elim))
  clear hx1
  have vc0 := (blk_cell HV1.out 0).trans rfl
  have vc1 := (blk_cell HV1.out 1).trans rfl
  have vc2 := (blk_cell HV1.out 2).trans rfl
  have vc3 := (blk_cell HV1.out 3).trans rfl
  have vc4 := (blk_cell HV1.out 4).trans rfl
  have vf0 := blk_frozen HV1.out 0
  have vf1 := blk_frozen HV1.out 1
  have vf2 := blk_frozen HV1.out 2
  have vf3 := blk_frozen HV1.out 3
  have vf4 := blk_frozen HV1.out 4
  have vl := lt_of_blk HV1.out
  go_wp2_with fail
  refine (may_calls y B d _ _ (ex_F HX1.out HF2.out (fun _ _ h => h))).mono ?_
  rintro e w2 ⟨rfl, hx2⟩
  have hm' := HN.out
  rw [hm']
  clear hm'
  have HG2 := Aside0.mk (hx2.blk HG1.out (fun h => h))
  have HK2 := Aside0.mk (hx2.blk HK1.out (fun h => h))
  have HV2 := Aside0.mk (hx2.blk HV1.out (fun h => h))
  have HB2 := Aside0.mk (hx2.blk HB1.out (fun h => h))
  have HX2 := Aside0.mk (HX1.out.trans hx2 (fun _ h => h.elim))
  clear hx2
  clear vc0 vc1 vc2 vc3 vc4 vf0 vf1 vf2 vf3 vf4 vl
  have kc0 := (blk_cell HK2.out 0).trans rfl
  have kc1 := (blk_cell HK2.out 1).trans rfl
  have kc2 := (blk_cell HK2.out 2).trans rfl
  have kc3 := (blk_cell HK2.out 3).trans rfl
  have kc4 := (blk_cell HK2.out 4).trans rfl
  have kf0 := blk_frozen HK2.out 0
  have kf1 := blk_frozen HK2.out 1
  have kf2 := blk_frozen HK2.out 2
  have kf3 := blk_frozen HK2.out 3
  have kf4 := blk_frozen HK2.out 4
  have kl := lt_of_blk HK2.out
  go_wp2_with fail
  refine (find_key' x A c g mb _ _ _ _ HG2.out (ex_F HX2.out HF.out (fun _ _ h => h)) HM.out).mono ?_
  rintro e w3 ⟨m2, h1, h2, hx3, rfl⟩
  have hm2 := HMK.out m2 h1
  subst hm2
  have hk' := HKEY.out.1
  rw [hk']
  clear hk' h2
  have H1 := Aside0.mk h1
  clear h1
  have HG3 := Aside0.mk (hx3.blk HG2.out (fun h => h))
  have HK3 := Aside0.mk (hx3.blk HK2.out (fun h => h))
  have HV3 := Aside0.mk (hx3.blk HV2.out (fun h => h))
  have HB3 := Aside0.mk (hx3.blk HB2.out (fun h => h))
  have HX3 := Aside0.mk (HX2.out.trans hx3 (fun _ h => h.elim))
  have HT3 := Aside0.mk (HT.out.ex0 HX3.out)
  have HF3 := Aside0.mk (ex_F HX3.out HF.out (fun _ _ h => h))
  have HF23 := Aside0.mk (ex_F HX3.out HF2.out (fun _ _ h => h))
  clear hx3
  clear kc0 kc1 kc2 kc3 kc4 kf0 kf1 kf2 kf3 kf4 kl
  obtain ⟨es, cl, hmb, hes⟩ := HT3.out.hm
  have hlk := run_lookup 63 78 Try.underlying63 HI.out.1 HI.out.2 hmb HKEY.out (HT3.out.key_all) (HT3.out.keys_map hes) true
  rw [HP.out] at hlk
  have hlk' : (Instr.lookup 63 (.map (some mb)) m2.val true).run Try.prog w3 = .ok (.tuple #[.agg #[.int .u8 0, .int .i64 0, .string ⟨#[]⟩, .slice none 0 0, .int .i64 0, .int .u8 0, .int .i64 0, .string ⟨#[]⟩, .slice none 0 0, .int .i64 0, .int .i64 0], .bool false]) w3 := hlk
  have HMB3 := Aside0.mk hmb
  have HES := Aside0.mk hes
  clear hlk hmb hes
  obtain ⟨t1, u1, hu1⟩ := m2.val_iface
  rw [hu1]
  rw [hu1] at hlk'
  have HU := Aside0.mk hu1
  clear hu1
  have hcm : (came : Int) < 1000000000 := by omega
  have hcm0 : (0 : Int) ≤ (came : Int) := by omega
  have gc0 := (blk_cell HG3.out 0).trans rfl
  have gc1 := (blk_cell HG3.out 1).trans rfl
  have gc2 := (blk_cell HG3.out 2).trans rfl
  have gf0 := blk_frozen HG3.out 0
  have gf1 := blk_frozen HG3.out 1
  have gf2 := blk_frozen HG3.out 2
  have gl := lt_of_blk HG3.out
  have bc0 := (blk_cell HB3.out 0).trans rfl
  have bc1 := (blk_cell HB3.out 1).trans rfl
  have bc2 := (blk_cell HB3.out 2).trans rfl
  have bc3 := (blk_cell HB3.out 3).trans rfl
  have bc4 := (blk_cell HB3.out 4).trans rfl
  have bf0 := blk_frozen HB3.out 0
  have bf1 := blk_frozen HB3.out 1
  have bf2 := blk_frozen HB3.out 2
  have bf3 := blk_frozen HB3.out 3
  have bf4 := blk_frozen HB3.out 4
  have bl := lt_of_blk HB3.out
  have kc0 := (blk_cell HK3.out 0).trans rfl
  have kc1 := (blk_cell HK3.out 1).trans rfl
  have kc2 := (blk_cell HK3.out 2).trans rfl
  have kc3 := (blk_cell HK3.out 3).trans rfl
  have kc4 := (blk_cell HK3.out 4).trans rfl
  have kf0 := blk_frozen HK3.out 0
  have kf1 := blk_frozen HK3.out 1
  have kf2 := blk_frozen HK3.out 2
  have kf3 := blk_frozen HK3.out 3
  have kf4 := blk_frozen HK3.out 4
  have kl := lt_of_blk HK3.out
  go_wp2_with fail
  clear gc0 gc1 gc2 gf0 gf1 gf2 gl
  clear bc0 bc1 bc2 bc3 bc4 bf0 bf1 bf2 bf3 bf4 bl
  clear kc0 kc1 kc2 kc3 kc4 kf0 kf1 kf2 kf3 kf4 kl
  have hgl := lt_of_blk HG3.out
  have hbl := lt_of_blk HB3.out
  have hg0 : g < w.heap.size := lt_of_blk HG.out
  have HG4 := Aside0.mk (blk_alloc (blk_put HG3.out 2 (.int .i64 ((came : Int) + 1)) rfl) (.cells #[.int .u8 0, .int .i64 0, .string ⟨#[]⟩, .slice none 0 0, .int .i64 0, .int .u8 0, .int .i64 0, .string ⟨#[]⟩, .slice none 0 0, .int .i64 0, .int .i64 0] 78))
  have HP4 := Aside0.mk (show ((w3.setCell ⟨g, 2, none⟩ (.int .i64 ((came : Int) + 1))).alloc (.cells #[.int .u8 0, .int .i64 0, .string ⟨#[]⟩, .slice none 0 0, .int .i64 0, .int .u8 0, .int .i64 0, .string ⟨#[]⟩, .slice none 0 0, .int .i64 0, .int .i64 0] 78)).heap[w3.heap.size]? = some (.cells #[.int .u8 0, .int .i64 0, .string ⟨#[]⟩, .slice none 0 0, .int .i64 0, .int .u8 0, .int .i64 0, .string ⟨#[]⟩, .slice none 0 0, .int .i64 0, .int .i64 0] 78 (0, 0)) from by
    have h := blk_new1 (w3.setCell ⟨g, 2, none⟩ (.int .i64 ((came : Int) + 1))) (.cells #[.int .u8 0, .int .i64 0, .string ⟨#[]⟩, .slice none 0 0, .int .i64 0, .int .u8 0, .int .i64 0, .string ⟨#[]⟩, .slice none 0 0, .int .i64 0, .int .i64 0] 78)
    rw [show (w3.setCell ⟨g, 2, none⟩ (.int .i64 ((came : Int) + 1))).heap.size = w3.heap.size by simp [World.setCell]] at h
    exact h)
  have HX4 := Aside0.mk (((Ex.refl (fun b => b = g) w3).set (p := ⟨g, 2, none⟩) (.inl rfl) (.int .i64 ((came : Int) + 1))).alloc (.cells #[.int .u8 0, .int .i64 0, .string ⟨#[]⟩, .slice none 0 0, .int .i64 0, .int .u8 0, .int .i64 0, .string ⟨#[]⟩, .slice none 0 0, .int .i64 0, .int .i64 0] 78))
  have HK4 := Aside0.mk (HX4.out.blk HK3.out (show ¬ w.heap.size = g by omega))
  have HV4 := Aside0.mk (HX4.out.blk HV3.out (show ¬ w.heap.size + 1 = g by omega))
  have HB4 := Aside0.mk (HX4.out.blk HB3.out (show ¬ w.heap.size + 1 + 1 = g by omega))
  have HMB4 := Aside0.mk (HX4.out.blk HMB3.out (fun e => by rw [e] at HMB3; exact absurd (HMB3.out.symm.trans HG3.out) (by simp)))
  obtain ⟨es2, cl2, hob, hes2⟩ := HT3.out.ho
  have HOB4 := Aside0.mk (HX4.out.blk hob (fun e => by rw [e] at hob; exact absurd (hob.symm.trans HG3.out) (by simp)))
  have HOB3 := Aside0.mk hob
  have HES2 := Aside0.mk hes2
  clear hob hes2
  have HF4 := Aside0.mk (ex_F HX4.out HF3.out (fun b hb e => HOK.out b hb.1 (by rw [e]; exact HT.out.tg)))
  have HF24 := Aside0.mk (ex_F HX4.out HF23.out (fun b hb e => HOK.out b hb.1 (by rw [e]; exact HT.out.tg)))
  generalize ((w3.setCell ⟨g, 2, none⟩ (.int .i64 ((came : Int) + 1))).alloc (.cells #[.int .u8 0, .int .i64 0, .string ⟨#[]⟩, .slice none 0 0, .int .i64 0, .int .u8 0, .int .i64 0, .string ⟨#[]⟩, .slice none 0 0, .int .i64 0, .int .i64 0] 78)) = w4 at HG4 HP4 HX4 HK4 HV4 HB4 HMB4 HOB4 HF4 HF24 ⊢
  have gc0 := (blk_cell HG4.out 0).trans rfl
  have gc1 := (blk_cell HG4.out 1).trans rfl
  have gc2 := (blk_cell HG4.out 2).trans rfl
  have gf0 := blk_frozen HG4.out 0
  have gf1 := blk_frozen HG4.out 1
  have gf2 := blk_frozen HG4.out 2
  have gl := lt_of_blk HG4.out
  have kc0 := (blk_cell HK4.out 0).trans rfl
  have kc1 := (blk_cell HK4.out 1).trans rfl
  have kc2 := (blk_cell HK4.out 2).trans rfl
  have kc3 := (blk_cell HK4.out 3).trans rfl
  have kc4 := (blk_cell HK4.out 4).trans rfl
  have kf0 := blk_frozen HK4.out 0
  have kf1 := blk_frozen HK4.out 1
  have kf2 := blk_frozen HK4.out 2
  have kf3 := blk_frozen HK4.out 3
  have kf4 := blk_frozen HK4.out 4
  have kl := lt_of_blk HK4.out
  have pc0 := (blk_cell HP4.out 0).trans rfl
  have pc1 := (blk_cell HP4.out 1).trans rfl
  have pc2 := (blk_cell HP4.out 2).trans rfl
  have pc3 := (blk_cell HP4.out 3).trans rfl
  have pc4 := (blk_cell HP4.out 4).trans rfl
  have pc5 := (blk_cell HP4.out 5).trans rfl
  have pc6 := (blk_cell HP4.out 6).trans rfl
  have pc7 := (blk_cell HP4.out 7).trans rfl
  have pc8 := (blk_cell HP4.out 8).trans rfl
  have pc9 := (blk_cell HP4.out 9).trans rfl
  have pc10 := (blk_cell HP4.out 10).trans rfl
  have pf0 := blk_frozen HP4.out 0
  have pf1 := blk_frozen HP4.out 1
  have pf2 := blk_frozen HP4.out 2
  have pf3 := blk_frozen HP4.out 3
  have pf4 := blk_frozen HP4.out 4
  have pf5 := blk_frozen HP4.out 5
  have pf6 := blk_frozen HP4.out 6
  have pf7 := blk_frozen HP4.out 7
  have pf8 := blk_frozen HP4.out 8
  have pf9 := blk_frozen HP4.out 9
  have pf10 := blk_frozen HP4.out 10
  have pl := lt_of_blk HP4.out
  go_region_law (first
    | (refine goes_ Try.func40 (by kernel_rfl) rfl #[.agg #[.int .u8 x.f0, .int .i64 x.f1, .string x.f2, .slice A x.f3.length c, .int .i64 x.f4]] (by rfl) rfl rfl (by (try simp only [List.map_toArray, List.map_cons, List.map_nil]); first | done | rfl) ?_; refine (own_calls x A c _ (fun k => ok k ∧ k < w.heap.size) HC.out.1 ?_ HM.out).mono ?_; exact Kd.F_drew HF4.out; rintro e w5 ⟨v, rfl, A1, c1, rfl, l1, hR, hx5⟩; refine ⟨_, rfl, ?_⟩; have HR5 := Aside0.mk (And.intro l1 hR); have HG5 := Aside0.mk (hx5.blk (blk_drew HG4.out) (fun h => h)); have HP5 := Aside0.mk (hx5.blk (blk_drew HP4.out) (fun h => h)); have HX5 := Aside0.mk hx5; clear l1 hR hx5; have qc0 := (blk_cell HG5.out 0).trans rfl; have qc1 := (blk_cell HG5.out 1).trans rfl; have qc2 := (blk_cell HG5.out 2).trans rfl; have qf0 := blk_frozen HG5.out 0; have qf1 := blk_frozen HG5.out 1; have qf2 := blk_frozen HG5.out 2; have ql := lt_of_blk HG5.out; have rc0 := (blk_cell HP5.out 0).trans rfl; have rc1 := (blk_cell HP5.out 1).trans rfl; have rc2 := (blk_cell HP5.out 2).trans rfl; have rc3 := (blk_cell HP5.out 3).trans rfl; have rc4 := (blk_cell HP5.out 4).trans rfl; have rc5 := (blk_cell HP5.out 5).trans rfl; have rc6 := (blk_cell HP5.out 6).trans rfl; have rc7 := (blk_cell HP5.out 7).trans rfl; have rc8 := (blk_cell HP5.out 8).trans rfl; have rc9 := (blk_cell HP5.out 9).trans rfl; have rc10 := (blk_cell HP5.out 10).trans rfl; have rf0 := blk_frozen HP5.out 0; have rf1 := blk_frozen HP5.out 1; have rf2 := blk_frozen HP5.out 2; have rf3 := blk_frozen HP5.out 3; have rf4 := blk_frozen HP5.out 4; have rf5 := blk_frozen HP5.out 5; have rf6 := blk_frozen HP5.out 6; have rf7 := blk_frozen HP5.out 7; have rf8 := blk_frozen HP5.out 8; have rf9 := blk_frozen HP5.out 9; have rf10 := blk_frozen HP5.out 10; have rl := lt_of_blk HP5.out))
  all_goals
    clear qc0 qc1 qc2 qf0 qf1 qf2 ql
    clear rc0 rc1 rc2 rc3 rc4 rc5 rc6 rc7 rc8 rc9 rc10 rf0 rf1 rf2 rf3 rf4 rf5 rf6 rf7 rf8 rf9 rf10 rl
    clear gc0 gc1 gc2 gf0 gf1 gf2 gl
    clear kc0 kc1 kc2 kc3 kc4 kf0 kf1 kf2 kf3 kf4 kl
    clear pc0 pc1 pc2 pc3 pc4 pc5 pc6 pc7 pc8 pc9 pc10 pf0 pf1 pf2 pf3 pf4 pf5 pf6 pf7 pf8 pf9 pf10 pl
    have hpl := lt_of_blk HP4.out
    have HS6 := Aside0.mk (ex_put78 (Ex.refl (fun b => b = w3.heap.size) w5) (.inl rfl) (.int .u8 x.f0) (.int .i64 x.f1) (.string x.f2) (.slice A1 x.f3.length c1) (.int .i64 x.f4) (.int .u8 0) (.int .i64 0) (.string ⟨#[]⟩) (.slice none 0 0) (.int .i64 0) (.int .i64 ((came : Int) + 1)))
    have HP6 := Aside0.mk (put78 HP5.out (.int .u8 x.f0) (.int .i64 x.f1) (.string x.f2) (.slice A1 x.f3.length c1) (.int .i64 x.f4) (.int .u8 0) (.int .i64 0) (.string ⟨#[]⟩) (.slice none 0 0) (.int .i64 0) (.int .i64 ((came : Int) + 1)))
    have HX46 := Aside0.mk ((((Ex.refl (fun b => b = w3.heap.size) w4).drew).trans HX5.out (fun _ h => h.elim)).trans HS6.out (fun b hb => .inl hb))
    have HR6 := Aside0.mk (Kd.R_mono (Kd.R_step (Kd.R_mono (Kd.R_bound HR5.out.2) (fun b hb => (show w4.heap.size ≤ b from hb.1))) (fun b hb _ => HS6.out.block b (by assumption) (show ¬ b = w3.heap.size by omega))) (fun b hb => hb))
    have HL1 := Aside0.mk HR5.out.1
    clear HR5
    generalize (((((((((((w5.setCell ⟨w3.heap.size, 0, none⟩ (.int .u8 x.f0)).setCell ⟨w3.heap.size, 1, none⟩ (.int .i64 x.f1)).setCell ⟨w3.heap.size, 2, none⟩ (.string x.f2)).setCell ⟨w3.heap.size, 3, none⟩ (.slice A1 x.f3.length c1)).setCell ⟨w3.heap.size, 4, none⟩ (.int .i64 x.f4)).setCell ⟨w3.heap.size, 5, none⟩ (.int .u8 0)).setCell ⟨w3.heap.size, 6, none⟩ (.int .i64 0)).setCell ⟨w3.heap.size, 7, none⟩ (.string ⟨#[]⟩)).setCell ⟨w3.heap.size, 8, none⟩ (.slice none 0 0)).setCell ⟨w3.heap.size, 9, none⟩ (.int .i64 0)).setCell ⟨w3.heap.size, 10, none⟩ (.int .i64 ((came : Int) + 1))) = w6 at HS6 HP6 HX46 HR6 ⊢
    clear HS6 HP5 HG5 HX5
    have HG6 := Aside0.mk (HX46.out.blk HG4.out (show ¬ g = w3.heap.size by omega))
    have HV6 := Aside0.mk (HX46.out.blk HV4.out (show ¬ w.heap.size + 1 = w3.heap.size by omega))
    have HB6 := Aside0.mk (HX46.out.blk HB4.out (show ¬ w.heap.size + 1 + 1 = w3.heap.size by omega))
    have HMB6 := Aside0.mk (HX46.out.blk HMB4.out (show ¬ mb = w3.heap.size by have := lt_of_blk HMB3.out; omega))
    have HOB6 := Aside0.mk (HX46.out.blk HOB4.out (show ¬ ob = w3.heap.size by have := lt_of_blk HOB3.out; omega))
    have HF26 := Aside0.mk (ex_F HX46.out HF24.out (fun b hb => show ¬ b = w3.heap.size by have := hb.2; omega))
    have HUP := run_order (blk_drew HOB6.out) HES2.out HT3.out.nums (.iface t1 u1)
    have HX67 := Aside0.mk (ex_setB ((Ex.refl (fun b => b = ob) w6).drew) (.inl rfl) (.map (es2.push { key := .int .i64 ((came : Int) + 1), val := .iface t1 u1, born := cl2 }) (cl2 + 1)))
    have HOB7 := Aside0.mk (setB_blk (o' := .map (es2.push { key := .int .i64 ((came : Int) + 1), val := .iface t1 u1, born := cl2 }) (cl2 + 1)) (blk_drew HOB6.out))
    generalize setB w6.drew ob (.map (es2.push { key := .int .i64 ((came : Int) + 1), val := .iface t1 u1, born := cl2 }) (cl2 + 1)) = w7 at HUP HX67 HOB7
    have gc0 := (blk_cell HG6.out 0).trans rfl
    have gc1 := (blk_cell HG6.out 1).trans rfl
    have gc2 := (blk_cell HG6.out 2).trans rfl
    have gf0 := blk_frozen HG6.out 0
    have gf1 := blk_frozen HG6.out 1
    have gf2 := blk_frozen HG6.out 2
    have gl := lt_of_blk HG6.out
    go_wp2
    go_region
    clear HUP
    have HG7 := Aside0.mk (HX67.out.blk HG6.out (fun e => by rw [← e] at HOB6; exact absurd (HOB6.out.symm.trans HG6.out) (by simp)))
    have HP7 := Aside0.mk (HX67.out.blk HP6.out (fun e => by rw [← e] at HOB6; exact absurd (HOB6.out.symm.trans HP6.out) (by simp)))
    have HV7 := Aside0.mk (HX67.out.blk HV6.out (fun e => by rw [← e] at HOB6; exact absurd (HOB6.out.symm.trans HV6.out) (by simp)))
    have HB7 := Aside0.mk (HX67.out.blk HB6.out (fun e => by rw [← e] at HOB6; exact absurd (HOB6.out.symm.trans HB6.out) (by simp)))
    have HMB7 := Aside0.mk (HX67.out.blk HMB6.out HT.out.ne)
    have HF27 := Aside0.mk (ex_F HX67.out HF26.out (fun b hb e => HOK.out b hb.1 (by rw [e]; exact HT.out.tb)))
    have HR7 := Aside0.mk (Kd.R_step HR6.out (fun b hb _ => HX67.out.block b (by assumption) (fun e => by have := lt_of_blk HOB4.out; rw [e] at hb; omega)))
    clear gc0 gc1 gc2 gf0 gf1 gf2 gl
    have pc0 := (blk_cell HP7.out 0).trans rfl
    have pc1 := (blk_cell HP7.out 1).trans rfl
    have pc2 := (blk_cell HP7.out 2).trans rfl
    have pc3 := (blk_cell HP7.out 3).trans rfl
    have pc4 := (blk_cell HP7.out 4).trans rfl
    have pc5 := (blk_cell HP7.out 5).trans rfl
    have pc6 := (blk_cell HP7.out 6).trans rfl
    have pc7 := (blk_cell HP7.out 7).trans rfl
    have pc8 := (blk_cell HP7.out 8).trans rfl
    have pc9 := (blk_cell HP7.out 9).trans rfl
    have pc10 := (blk_cell HP7.out 10).trans rfl
    have pf0 := blk_frozen HP7.out 0
    have pf1 := blk_frozen HP7.out 1
    have pf2 := blk_frozen HP7.out 2
    have pf3 := blk_frozen HP7.out 3
    have pf4 := blk_frozen HP7.out 4
    have pf5 := blk_frozen HP7.out 5
    have pf6 := blk_frozen HP7.out 6
    have pf7 := blk_frozen HP7.out 7
    have pf8 := blk_frozen HP7.out 8
    have pf9 := blk_frozen HP7.out 9
    have pf10 := blk_frozen HP7.out 10
    have pl := lt_of_blk HP7.out
    have vc0 := (blk_cell HV7.out 0).trans rfl
    have vc1 := (blk_cell HV7.out 1).trans rfl
    have vc2 := (blk_cell HV7.out 2).trans rfl
    have vc3 := (blk_cell HV7.out 3).trans rfl
    have vc4 := (blk_cell HV7.out 4).trans rfl
    have vf0 := blk_frozen HV7.out 0
    have vf1 := blk_frozen HV7.out 1
    have vf2 := blk_frozen HV7.out 2
    have vf3 := blk_frozen HV7.out 3
    have vf4 := blk_frozen HV7.out 4
    have vl := lt_of_blk HV7.out
    have bc0 := (blk_cell HB7.out 0).trans rfl
    have bc1 := (blk_cell HB7.out 1).trans rfl
    have bc2 := (blk_cell HB7.out 2).trans rfl
    have bc3 := (blk_cell HB7.out 3).trans rfl
    have bc4 := (blk_cell HB7.out 4).trans rfl
    have bf0 := blk_frozen HB7.out 0
    have bf1 := blk_frozen HB7.out 1
    have bf2 := blk_frozen HB7.out 2
    have bf3 := blk_frozen HB7.out 3
    have bf4 := blk_frozen HB7.out 4
    have bl := lt_of_blk HB7.out
    go_wp2_with fail
    have HX78 := Aside0.mk (ex_put27 (Ex.refl (fun b => b = w.heap.size + 1 + 1) w7) (.inl rfl) (.int .u8 0) (.int .i64 0) (.string ⟨#[]⟩) (.slice none 0 0) (.int .i64 0))
    have HB8 := Aside0.mk (put27 HB7.out rfl (.int .u8 0) (.int .i64 0) (.string ⟨#[]⟩) (.slice none 0 0) (.int .i64 0))
    refine (own_calls y B d _ (fun k => ok k ∧ k < w.heap.size) HC.out.2 (ex_F HX78.out HF27.out (fun b hb => show ¬ b = w.heap.size + 1 + 1 by have := hb.2; omega)) HN.out).mono ?_
    rintro e w9 ⟨v, rfl, B1, d1, rfl, l2, hR2, hx9⟩
    have HL2 := Aside0.mk l2
    have HX79 := Aside0.mk (HX78.out.trans hx9 (fun _ h => h.elim))
    have HB9 := Aside0.mk (hx9.blk HB8.out (fun h => h))
    have HR29 := Aside0.mk hR2
    have hs8 : w7.heap.size ≤ ((((((w7.setCell ⟨w.heap.size + 1 + 1, 0, none⟩ (.int .u8 0)).setCell ⟨w.heap.size + 1 + 1, 1, none⟩ (.int .i64 0)).setCell ⟨w.heap.size + 1 + 1, 2, none⟩ (.string ⟨#[]⟩)).setCell ⟨w.heap.size + 1 + 1, 3, none⟩ (.slice none 0 0)).setCell ⟨w.heap.size + 1 + 1, 4, none⟩ (.int .i64 0))).heap.size := HX78.out.size
    have hs8' : ((((((w7.setCell ⟨w.heap.size + 1 + 1, 0, none⟩ (.int .u8 0)).setCell ⟨w.heap.size + 1 + 1, 1, none⟩ (.int .i64 0)).setCell ⟨w.heap.size + 1 + 1, 2, none⟩ (.string ⟨#[]⟩)).setCell ⟨w.heap.size + 1 + 1, 3, none⟩ (.slice none 0 0)).setCell ⟨w.heap.size + 1 + 1, 4, none⟩ (.int .i64 0))).heap.size ≤ w9.heap.size := hx9.size
    clear HX78 HB8 hx9 hR2 l2
    generalize (((((w7.setCell ⟨w.heap.size + 1 + 1, 0, none⟩ (.int .u8 0)).setCell ⟨w.heap.size + 1 + 1, 1, none⟩ (.int .i64 0)).setCell ⟨w.heap.size + 1 + 1, 2, none⟩ (.string ⟨#[]⟩)).setCell ⟨w.heap.size + 1 + 1, 3, none⟩ (.slice none 0 0)).setCell ⟨w.heap.size + 1 + 1, 4, none⟩ (.int .i64 0)) = w8 at HR29 hs8 hs8'
    clear pc0 pc1 pc2 pc3 pc4 pc5 pc6 pc7 pc8 pc9 pc10 pf0 pf1 pf2 pf3 pf4 pf5 pf6 pf7 pf8 pf9 pf10 pl
    clear vc0 vc1 vc2 vc3 vc4 vf0 vf1 vf2 vf3 vf4 vl
    clear bc0 bc1 bc2 bc3 bc4 bf0 bf1 bf2 bf3 bf4 bl
    have HG9 := Aside0.mk (HX79.out.blk HG7.out (show ¬ g = w.heap.size + 1 + 1 by omega))
    have HP9 := Aside0.mk (HX79.out.blk HP7.out (show ¬ w3.heap.size = w.heap.size + 1 + 1 by omega))
    have HMB9 := Aside0.mk (HX79.out.blk HMB7.out (show ¬ mb = w.heap.size + 1 + 1 by rintro rfl; exact absurd (HMB7.out.symm.trans HB7.out) (by simp)))
    have HOB9 := Aside0.mk (HX79.out.blk HOB7.out (show ¬ ob = w.heap.size + 1 + 1 by rintro rfl; exact absurd (HOB7.out.symm.trans HB7.out) (by simp)))
    have HR9 := Aside0.mk (Kd.R_step HR7.out (fun b hb _ => HX79.out.block b (by assumption) (show ¬ b = w.heap.size + 1 + 1 by have := lt_of_blk HB4.out; omega)))
    have pc0 := (blk_cell HP9.out 0).trans rfl
    have pc1 := (blk_cell HP9.out 1).trans rfl
    have pc2 := (blk_cell HP9.out 2).trans rfl
    have pc3 := (blk_cell HP9.out 3).trans rfl
    have pc4 := (blk_cell HP9.out 4).trans rfl
    have pc5 := (blk_cell HP9.out 5).trans rfl
    have pc6 := (blk_cell HP9.out 6).trans rfl
    have pc7 := (blk_cell HP9.out 7).trans rfl
    have pc8 := (blk_cell HP9.out 8).trans rfl
    have pc9 := (blk_cell HP9.out 9).trans rfl
    have pc10 := (blk_cell HP9.out 10).trans rfl
    have pf0 := blk_frozen HP9.out 0
    have pf1 := blk_frozen HP9.out 1
    have pf2 := blk_frozen HP9.out 2
    have pf3 := blk_frozen HP9.out 3
    have pf4 := blk_frozen HP9.out 4
    have pf5 := blk_frozen HP9.out 5
    have pf6 := blk_frozen HP9.out 6
    have pf7 := blk_frozen HP9.out 7
    have pf8 := blk_frozen HP9.out 8
    have pf9 := blk_frozen HP9.out 9
    have pf10 := blk_frozen HP9.out 10
    have pl := lt_of_blk HP9.out
    have bc0 := (blk_cell HB9.out 0).trans rfl
    have bc1 := (blk_cell HB9.out 1).trans rfl
    have bc2 := (blk_cell HB9.out 2).trans rfl
    have bc3 := (blk_cell HB9.out 3).trans rfl
    have bc4 := (blk_cell HB9.out 4).trans rfl
    have bf0 := blk_frozen HB9.out 0
    have bf1 := blk_frozen HB9.out 1
    have bf2 := blk_frozen HB9.out 2
    have bf3 := blk_frozen HB9.out 3
    have bf4 := blk_frozen HB9.out 4
    have bl := lt_of_blk HB9.out
    go_wp2_with fail
    clear pc0 pc1 pc2 pc3 pc4 pc5 pc6 pc7 pc8 pc9 pc10 pf0 pf1 pf2 pf3 pf4 pf5 pf6 pf7 pf8 pf9 pf10 pl
    clear bc0 bc1 bc2 bc3 bc4 bf0 bf1 bf2 bf3 bf4 bl
    have HX910 := Aside0.mk (ex_put78v (Ex.refl (fun b => b = w3.heap.size) w9) (.inl rfl) (.int .u8 y.f0) (.int .i64 y.f1) (.string y.f2) (.slice B1 y.f3.length d1) (.int .i64 y.f4))
    have HP10 := Aside0.mk (put78v HP9.out (.int .u8 y.f0) (.int .i64 y.f1) (.string y.f2) (.slice B1 y.f3.length d1) (.int .i64 y.f4))
    generalize (((((w9.setCell ⟨w3.heap.size, 5, none⟩ (.int .u8 y.f0)).setCell ⟨w3.heap.size, 6, none⟩ (.int .i64 y.f1)).setCell ⟨w3.heap.size, 7, none⟩ (.string y.f2)).setCell ⟨w3.heap.size, 8, none⟩ (.slice B1 y.f3.length d1)).setCell ⟨w3.heap.size, 9, none⟩ (.int .i64 y.f4)) = w10 at HX910 HP10 ⊢
    have HG10 := Aside0.mk (HX910.out.blk HG9.out (show ¬ g = w3.heap.size by omega))
    have HB10 := Aside0.mk (HX910.out.blk HB9.out (show ¬ w.heap.size + 1 + 1 = w3.heap.size by omega))
    have HMB10 := Aside0.mk (HX910.out.blk HMB9.out (show ¬ mb = w3.heap.size by have := lt_of_blk HMB3.out; omega))
    have HOB10 := Aside0.mk (HX910.out.blk HOB9.out (show ¬ ob = w3.heap.size by have := lt_of_blk HOB3.out; omega))
    have HPUT := run_new (blk_drew HMB10.out) HKEY.out (HT3.out.key_all) (HT3.out.keys_map HES.out) HP.out (.agg #[.int .u8 x.f0, .int .i64 x.f1, .string x.f2, .slice A1 x.f3.length c1, .int .i64 x.f4, .int .u8 y.f0, .int .i64 y.f1, .string y.f2, .slice B1 y.f3.length d1, .int .i64 y.f4, .int .i64 ((came : Int) + 1)])
    rw [HU.out] at HPUT
    have HX1011 := Aside0.mk (ex_setB ((Ex.refl (fun b => b = mb) w10).drew) (.inl rfl) (.map (es.push { key := .iface t1 u1, val := .agg #[.int .u8 x.f0, .int .i64 x.f1, .string x.f2, .slice A1 x.f3.length c1, .int .i64 x.f4, .int .u8 y.f0, .int .i64 y.f1, .string y.f2, .slice B1 y.f3.length d1, .int .i64 y.f4, .int .i64 ((came : Int) + 1)], born := cl }) (cl + 1)))
    have HMB11 := Aside0.mk (setB_blk (o' := .map (es.push { key := .iface t1 u1, val := .agg #[.int .u8 x.f0, .int .i64 x.f1, .string x.f2, .slice A1 x.f3.length c1, .int .i64 x.f4, .int .u8 y.f0, .int .i64 y.f1, .string y.f2, .slice B1 y.f3.length d1, .int .i64 y.f4, .int .i64 ((came : Int) + 1)], born := cl }) (cl + 1)) (blk_drew HMB10.out))
    generalize setB w10.drew mb (.map (es.push { key := .iface t1 u1, val := .agg #[.int .u8 x.f0, .int .i64 x.f1, .string x.f2, .slice A1 x.f3.length c1, .int .i64 x.f4, .int .u8 y.f0, .int .i64 y.f1, .string y.f2, .slice B1 y.f3.length d1, .int .i64 y.f4, .int .i64 ((came : Int) + 1)], born := cl }) (cl + 1)) = w11 at HPUT HX1011 HMB11
    have gc0 := (blk_cell HG10.out 0).trans rfl
    have gc1 := (blk_cell HG10.out 1).trans rfl
    have gc2 := (blk_cell HG10.out 2).trans rfl
    have gf0 := blk_frozen HG10.out 0
    have gf1 := blk_frozen HG10.out 1
    have gf2 := blk_frozen HG10.out 2
    have gl := lt_of_blk HG10.out
    have pc0 := (blk_cell HP10.out 0).trans rfl
    have pc1 := (blk_cell HP10.out 1).trans rfl
    have pc2 := (blk_cell HP10.out 2).trans rfl
    have pc3 := (blk_cell HP10.out 3).trans rfl
    have pc4 := (blk_cell HP10.out 4).trans rfl
    have pc5 := (blk_cell HP10.out 5).trans rfl
    have pc6 := (blk_cell HP10.out 6).trans rfl
    have pc7 := (blk_cell HP10.out 7).trans rfl
    have pc8 := (blk_cell HP10.out 8).trans rfl
    have pc9 := (blk_cell HP10.out 9).trans rfl
    have pc10 := (blk_cell HP10.out 10).trans rfl
    have pf0 := blk_frozen HP10.out 0
    have pf1 := blk_frozen HP10.out 1
    have pf2 := blk_frozen HP10.out 2
    have pf3 := blk_frozen HP10.out 3
    have pf4 := blk_frozen HP10.out 4
    have pf5 := blk_frozen HP10.out 5
    have pf6 := blk_frozen HP10.out 6
    have pf7 := blk_frozen HP10.out 7
    have pf8 := blk_frozen HP10.out 8
    have pf9 := blk_frozen HP10.out 9
    have pf10 := blk_frozen HP10.out 10
    have pl := lt_of_blk HP10.out
    go_region
    clear HPUT
    clear gc0 gc1 gc2 gf0 gf1 gf2 gl
    clear pc0 pc1 pc2 pc3 pc4 pc5 pc6 pc7 pc8 pc9 pc10 pf0 pf1 pf2 pf3 pf4 pf5 pf6 pf7 pf8 pf9 pf10 pl
    have HG11 := Aside0.mk (HX1011.out.blk HG10.out (fun e => by rw [← e] at HMB10; exact absurd (HMB10.out.symm.trans HG10.out) (by simp)))
    have HB11 := Aside0.mk (HX1011.out.blk HB10.out (fun e => by rw [← e] at HMB10; exact absurd (HMB10.out.symm.trans HB10.out) (by simp)))
    have HOB11 := Aside0.mk (HX1011.out.blk HOB10.out (Ne.symm HT.out.ne))
    have bc0 := (blk_cell HB11.out 0).trans rfl
    have bc1 := (blk_cell HB11.out 1).trans rfl
    have bc2 := (blk_cell HB11.out 2).trans rfl
    have bc3 := (blk_cell HB11.out 3).trans rfl
    have bc4 := (blk_cell HB11.out 4).trans rfl
    have bf0 := blk_frozen HB11.out 0
    have bf1 := blk_frozen HB11.out 1
    have bf2 := blk_frozen HB11.out 2
    have bf3 := blk_frozen HB11.out 3
    have bf4 := blk_frozen HB11.out 4
    have bl := lt_of_blk HB11.out
    go_wp2_with fail
    have HX1112 := Aside0.mk (ex_put27 (Ex.refl (fun b => b = w.heap.size + 1 + 1) w11) (.inl rfl) (.int .u8 0) (.int .i64 0) (.string ⟨#[]⟩) (.slice none 0 0) (.int .i64 0))
    refine bodyPost_ret (results_row_tmp2 rfl _ _ (w.heap.size + 1 + 1) 27 _ (0, 0) _ rfl (put27 HB11.out rfl _ _ _ _ _) Try.underlying27 rfl size27) rfl ?_
    refine ⟨rfl, ?_⟩
    clear bc0 bc1 bc2 bc3 bc4 bf0 bf1 bf2 bf3 bf4 bl
    generalize (((((w11.setCell ⟨w.heap.size + 1 + 1, 0, none⟩ (.int .u8 0)).setCell ⟨w.heap.size + 1 + 1, 1, none⟩ (.int .i64 0)).setCell ⟨w.heap.size + 1 + 1, 2, none⟩ (.string ⟨#[]⟩)).setCell ⟨w.heap.size + 1 + 1, 3, none⟩ (.slice none 0 0)).setCell ⟨w.heap.size + 1 + 1, 4, none⟩ (.int .i64 0)) = w12 at HX1112 ⊢
    exact put_new_end HT.out HX3.out HX4.out (lt_of_blk HP4.out) HX46.out HX67.out HX79.out HX910.out HX1011.out HX1112.out (lt_of_blk HB3.out) HG11.out rfl HMB11.out HOB11.out HES.out HES2.out HU.out H1.out HKEY.out HP.out HM.out HN.out HL1.out HL2.out HR9.out HR29.out hs8

end Go.Proofs.Ythkemcekcfccpaa.PBrandCompares

namespace Go.Proofs.Ythkemcekcfccpaa.PBrandCompares
open Go.RowKit Go.Proofs.YthkemcekcfccpaaW.PrintWords Go.Proofs.YthkemcekcfccpaaW.PrintLast Go.Proofs.YthkemcekcfccpaaW.PrintMore
open Go.Proofs.Ythkemcekcfccpaa.GBrandCompares
set_option linter.unusedVariables false
set_option linter.unusedSimpArgs false

theorem number_calls (n : Int) (w : World) : Calls Try.prog 27 #[.int .i64 n] w fun e w' => e = .returned (.agg #[.int .u8 1, .int .i64 n, .string ⟨#[]⟩, .slice none 0 0, .int .i64 0]) ∧ Ex (fun _ => False) w w' := by
  go_enter Try.func27, Try.ntmps27
  go_wp2_with fail
  refine bodyPost_ret (results_cell_row rfl _ _ w.heap.size 27 _ (0, 0) _ rfl (blk_new1 w _) Try.underlying27 rfl size27) rfl ?_
  exact ⟨rfl, (Ex.refl _ _).alloc _⟩

theorem word_calls (s : ByteArray) (w : World) : Calls Try.prog 28 #[.string s] w fun e w' => e = .returned (.agg #[.int .u8 2, .int .i64 0, .string s, .slice none 0 0, .int .i64 0]) ∧ Ex (fun _ => False) w w' := by
  go_enter Try.func28, Try.ntmps28
  go_wp2_with fail
  refine bodyPost_ret (results_cell_row rfl _ _ w.heap.size 27 _ (0, 0) _ rfl (blk_new1 w _) Try.underlying27 rfl size27) rfl ?_
  exact ⟨rfl, (Ex.refl _ _).alloc _⟩

theorem list_calls (A : Option Addr) (n c : Nat) (w : World) : Calls Try.prog 29 #[.slice A n c] w fun e w' => e = .returned (.agg #[.int .u8 3, .int .i64 0, .string ⟨#[]⟩, .slice A n c, .int .i64 0]) ∧ Ex (fun _ => False) w w' := by
  go_enter Try.func29, Try.ntmps29
  go_wp2_with fail
  refine bodyPost_ret (results_cell_row rfl _ _ w.heap.size 27 _ (0, 0) _ rfl (blk_new1 w _) Try.underlying27 rfl size27) rfl ?_
  exact ⟨rfl, (Ex.refl _ _).alloc _⟩

def num (n : Int) : S27 := ⟨1, n, ⟨#[]⟩, [], 0⟩
def txt (s : ByteArray) : S27 := ⟨2, 0, s, [], 0⟩
def lst (l : List S27) : S27 := ⟨3, 0, ⟨#[]⟩, l, 0⟩

theorem F_pair {w : World} {b : Nat} (m n : Int) (h : w.heap[b]? = some (.cells #[.int .u8 1, .int .i64 m, .string ⟨#[]⟩, .slice none 0 0, .int .i64 0, .int .u8 1, .int .i64 n, .string ⟨#[]⟩, .slice none 0 0, .int .i64 0] 27 (0, 0))) :
    Kd.F k27 w (fun k => k = b) (some ⟨b, 0, none⟩) 2 [num m, num n] := by
  intro W' hW
  have h' : W'.heap[b]? = some (.cells #[.int .u8 1, .int .i64 m, .string ⟨#[]⟩, .slice none 0 0, .int .i64 0, .int .u8 1, .int .i64 n, .string ⟨#[]⟩, .slice none 0 0, .int .i64 0] 27 (0, 0)) := (hW b rfl (lt_of_blk h)).trans h
  have hk : ∀ m : Int, k27.K W' (num m) [.int .u8 1, .int .i64 m, .string ⟨#[]⟩, .slice none 0 0, .int .i64 0] := fun m => k27_mk W' (num m) (A3 := none) (c3 := 0) (Nat.le_refl _) (Kd.C_nil k27 W')
  refine ⟨rfl, by omega, fun _ => ⟨⟨b, 0, none⟩, rfl, ?_⟩⟩
  intro j p hj
  match j with
  | 0 =>
    cases hj
    refine ⟨_, rfl, hk m, ?_⟩
    intro i u hu
    rw [show k27.sz = 5 from rfl, show 0 * 5 + i = i by omega]
    have hc := blk_cell h' i
    have : i < 5 := by have := (List.getElem?_eq_some_iff.1 hu).1; simpa using this
    match i with
    | 0 | 1 | 2 | 3 | 4 => cases hu; exact hc
  | 1 =>
    cases hj
    refine ⟨_, rfl, hk n, ?_⟩
    intro i u hu
    rw [show k27.sz = 5 from rfl]
    have hc := blk_cell h' (1 * 5 + i)
    have : i < 5 := by have := (List.getElem?_eq_some_iff.1 hu).1; simpa using this
    match i with
    | 0 | 1 | 2 | 3 | 4 => cases hu; exact hc
  | j + 2 => simp at hj

end Go.Proofs.Ythkemcekcfccpaa.PBrandCompares

namespace Go.Proofs.Ythkemcekcfccpaa.PBrandCompares
open Go.RowKit Go.Proofs.YthkemcekcfccpaaW.PrintWords Go.Proofs.YthkemcekcfccpaaW.PrintLast Go.Proofs.YthkemcekcfccpaaW.PrintMore
open Go.Proofs.Ythkemcekcfccpaa.GBrandCompares
set_option linter.unusedVariables false
set_option linter.unusedSimpArgs false

set_option maxHeartbeats 1000000 in
theorem compare_no1 (x y : S27) (A B : Option Addr) (c d : Nat) (w : World) (ok : Nat → Prop) (hF : Kd.F k27 w ok A x.f3.length x.f3) (hG : Kd.F k27 w ok B y.f3.length y.f3) (hm : mayV x = false) (hn : mayV y = false) :
    Calls Try.prog 9 #[.agg #[.int .u8 x.f0, .int .i64 x.f1, .string x.f2, .slice A x.f3.length c, .int .i64 x.f4], .agg #[.int .u8 y.f0, .int .i64 y.f1, .string y.f2, .slice B y.f3.length d, .int .i64 y.f4]] w fun e w' => e = .returned (.tuple #[.int .u8 0, .int .i64 2]) ∧ Ex (fun _ => False) w w' := by
  have HF := Aside0.mk hF
  have HG := Aside0.mk hG
  have HM := Aside0.mk hm
  have HN := Aside0.mk hn
  clear hF hG hm hn
  go_enter Try.func9, Try.ntmps9
  go_wp2_with fail
  refine (of_no x A c _ ok (Kd.F_alloc (Kd.F_alloc HF.out _) _) HM.out).mono ?_
  rintro e w1 ⟨rfl, hx1⟩
  obtain ⟨hc, hf⟩ := hx1.cells
  have HG1 := Aside0.mk (ex_F hx1 (Kd.F_alloc (Kd.F_alloc HG.out _) _) (fun _ _ h => h))
  have HX1 := Aside0.mk ((((Ex.refl (fun _ => False) w).alloc _).alloc _).trans hx1 (fun _ h => h.elim))
  have hlx : w.heap.size + 1 < w1.heap.size := by have := hx1.size; simp at this; omega
  have hlx0 : w.heap.size < w1.heap.size := by omega
  clear hx1
  go_wp2_with fail
  refine (of_no y B d _ ok (Kd.F_alloc HG1.out _) HN.out).mono ?_
  rintro e w2 ⟨rfl, hx2⟩
  obtain ⟨hc2, hf2⟩ := hx2.cells
  have HX2 := Aside0.mk ((HX1.out.alloc _).trans hx2 (fun _ h => h.elim))
  clear hc hf
  go_wp2
  go_ret2
  exact ⟨rfl, HX2.out.alloc _⟩

set_option maxHeartbeats 1000000 in
theorem compare_no2 (x y : S27) (A B : Option Addr) (c d : Nat) (w : World) (ok : Nat → Prop) (hF : Kd.F k27 w ok A x.f3.length x.f3) (hG : Kd.F k27 w ok B y.f3.length y.f3) (hm : mayV x = false) (hn : mayV y = true) :
    Calls Try.prog 9 #[.agg #[.int .u8 x.f0, .int .i64 x.f1, .string x.f2, .slice A x.f3.length c, .int .i64 x.f4], .agg #[.int .u8 y.f0, .int .i64 y.f1, .string y.f2, .slice B y.f3.length d, .int .i64 y.f4]] w fun e w' => e = .returned (.tuple #[.int .u8 0, .int .i64 2]) ∧ Ex (fun _ => False) w w' := by
  have HF := Aside0.mk hF
  have HG := Aside0.mk hG
  have HM := Aside0.mk hm
  have HN := Aside0.mk hn
  clear hF hG hm hn
  go_enter Try.func9, Try.ntmps9
  go_wp2_with fail
  refine (of_no x A c _ ok (Kd.F_alloc (Kd.F_alloc HF.out _) _) HM.out).mono ?_
  rintro e w1 ⟨rfl, hx1⟩
  obtain ⟨hc, hf⟩ := hx1.cells
  have HG1 := Aside0.mk (ex_F hx1 (Kd.F_alloc (Kd.F_alloc HG.out _) _) (fun _ _ h => h))
  have HX1 := Aside0.mk ((((Ex.refl (fun _ => False) w).alloc _).alloc _).trans hx1 (fun _ h => h.elim))
  have hlx : w.heap.size + 1 < w1.heap.size := by have := hx1.size; simp at this; omega
  have hlx0 : w.heap.size < w1.heap.size := by omega
  clear hx1
  go_wp2_with fail
  refine (of_yes y B d _ ok (Kd.F_alloc HG1.out _) HN.out).mono ?_
  rintro e w2 ⟨m2, k1, k2, rfl, k4⟩
  obtain ⟨t2, u2, hu2⟩ := m2.val_iface
  rw [hu2]
  have H2 := Aside0.mk (And.intro k1 (And.intro k2 hu2))
  clear k1 k2 hu2
  have hx2 := k4
  clear k4
  obtain ⟨hc2, hf2⟩ := hx2.cells
  have HX2 := Aside0.mk ((HX1.out.alloc _).trans hx2 (fun _ h => h.elim))
  clear hc hf
  go_wp2
  go_ret2
  exact ⟨rfl, HX2.out.alloc _⟩

set_option maxHeartbeats 1000000 in
theorem compare_no3 (x y : S27) (A B : Option Addr) (c d : Nat) (w : World) (ok : Nat → Prop) (hF : Kd.F k27 w ok A x.f3.length x.f3) (hG : Kd.F k27 w ok B y.f3.length y.f3) (hm : mayV x = true) (hn : mayV y = false) :
    Calls Try.prog 9 #[.agg #[.int .u8 x.f0, .int .i64 x.f1, .string x.f2, .slice A x.f3.length c, .int .i64 x.f4], .agg #[.int .u8 y.f0, .int .i64 y.f1, .string y.f2, .slice B y.f3.length d, .int .i64 y.f4]] w fun e w' => e = .returned (.tuple #[.int .u8 0, .int .i64 2]) ∧ Ex (fun _ => False) w w' := by
  have HF := Aside0.mk hF
  have HG := Aside0.mk hG
  have HM := Aside0.mk hm
  have HN := Aside0.mk hn
  clear hF hG hm hn
  go_enter Try.func9, Try.ntmps9
  go_wp2_with fail
  refine (of_yes x A c _ ok (Kd.F_alloc (Kd.F_alloc HF.out _) _) HM.out).mono ?_
  rintro e w1 ⟨m, h1, h2, rfl, h4⟩
  obtain ⟨t1, u1, hu1⟩ := m.val_iface
  rw [hu1]
  have H1 := Aside0.mk (And.intro h1 (And.intro h2 hu1))
  clear h1 h2 hu1
  have hx1 := h4
  clear h4
  obtain ⟨hc, hf⟩ := hx1.cells
  have HG1 := Aside0.mk (ex_F hx1 (Kd.F_alloc (Kd.F_alloc HG.out _) _) (fun _ _ h => h))
  have HX1 := Aside0.mk ((((Ex.refl (fun _ => False) w).alloc _).alloc _).trans hx1 (fun _ h => h.elim))
  have hlx : w.heap.size + 1 < w1.heap.size := by have := hx1.size; simp at this; omega
  have hlx0 : w.heap.size < w1.heap.size := by omega
  clear hx1
  go_wp2_with fail
  refine (of_no y B d _ ok (Kd.F_alloc HG1.out _) HN.out).mono ?_
  rintro e w2 ⟨rfl, hx2⟩
  obtain ⟨hc2, hf2⟩ := hx2.cells
  have HX2 := Aside0.mk ((HX1.out.alloc _).trans hx2 (fun _ h => h.elim))
  clear hc hf
  go_wp2
  go_ret2
  exact ⟨rfl, HX2.out.alloc _⟩

set_option maxHeartbeats 1000000 in
theorem compare_same (x y : S27) (A B : Option Addr) (c d : Nat) (w : World) (ok : Nat → Prop) (hF : Kd.F k27 w ok A x.f3.length x.f3) (hG : Kd.F k27 w ok B y.f3.length y.f3) (hm : mayV x = true) (hn : mayV y = true) (hcmp : ∀ m m2, MarkOf x m → MarkOf y m2 → m.cmp m2 = 1) :
    Calls Try.prog 9 #[.agg #[.int .u8 x.f0, .int .i64 x.f1, .string x.f2, .slice A x.f3.length c, .int .i64 x.f4], .agg #[.int .u8 y.f0, .int .i64 y.f1, .string y.f2, .slice B y.f3.length d, .int .i64 y.f4]] w fun e w' => e = .returned (.tuple #[.int .u8 1, .int .i64 0]) ∧ Ex (fun _ => False) w w' := by
  have hmf : ∀ (fn : Fn) (first cap : Array Value) (w : World), (Instr.makeFunc fn first cap).run Try.prog w = .ok (.func fn first cap) w := fun _ _ _ _ => rfl
  have HF := Aside0.mk hF
  have HG := Aside0.mk hG
  have HM := Aside0.mk hm
  have HN := Aside0.mk hn
  have HC := Aside0.mk hcmp
  clear hF hG hm hn hcmp
  go_enter Try.func9, Try.ntmps9
  go_wp2_with fail
  refine (of_yes x A c _ ok (Kd.F_alloc (Kd.F_alloc HF.out _) _) HM.out).mono ?_
  rintro e w1 ⟨m, h1, h2, rfl, h4⟩
  obtain ⟨t1, u1, hu1⟩ := m.val_iface
  rw [hu1]
  have H1 := Aside0.mk (And.intro h1 (And.intro h2 hu1))
  clear h1 h2 hu1
  have hx1 := h4
  clear h4
  obtain ⟨hc, hf⟩ := hx1.cells
  have HG1 := Aside0.mk (ex_F hx1 (Kd.F_alloc (Kd.F_alloc HG.out _) _) (fun _ _ h => h))
  have HX1 := Aside0.mk ((((Ex.refl (fun _ => False) w).alloc _).alloc _).trans hx1 (fun _ h => h.elim))
  have hlx : w.heap.size + 1 < w1.heap.size := by have := hx1.size; simp at this; omega
  have hlx0 : w.heap.size < w1.heap.size := by omega
  clear hx1
  go_wp2_with fail
  refine (of_yes y B d _ ok (Kd.F_alloc HG1.out _) HN.out).mono ?_
  rintro e w2 ⟨m2, k1, k2, rfl, k4⟩
  obtain ⟨t2, u2, hu2⟩ := m2.val_iface
  rw [hu2]
  have H2 := Aside0.mk (And.intro k1 (And.intro k2 hu2))
  clear k1 k2 hu2
  have hx2 := k4
  clear k4
  obtain ⟨hc2, hf2⟩ := hx2.cells
  have HB6 := Aside0.mk (hx2.blk (blk_new1 w1 _) (fun h => h))
  have HX2 := Aside0.mk ((HX1.out.alloc _).trans hx2 (fun _ h => h.elim))
  clear hc hf
  go_wp2_with fail
  refine Calls.mono (met_ok 31 _ (fun b => b = w2.heap.size + 1) (fun w' => w' = (((w2.alloc (.cells #[.iface t2 u2] 45)).alloc (.cells #[.int .u8 0] 30)).alloc (.cells #[.bool false] 4)).setCell ⟨w2.heap.size + 1, 0, none⟩ (.int .u8 1)) _ (by intro b hb; rw [hb]; simp) (fun w => enters_ Try.func31 (by kernel_rfl) rfl _ w) ?_) ?_
  · refine (same_marks m m2 H1.out.2.1 _ _ _ _ (by rw [H1.out.2.2]; exact blk_alloc (blk_alloc (blk_alloc HB6.out _) _) _) (by rw [H2.out.2.2]; exact blk_alloc (blk_alloc (blk_new1 _ _) _) _) (blk_alloc (blk_new2 _ _ _) _) (HC.out m m2 H1.out.1 H2.out.1)).mono ?_
    rintro e w' ⟨rfl, hw'⟩
    exact ⟨rfl, by rw [hw']; exact (Ex.refl (fun b => b = w2.heap.size + 1) _).set (p := ⟨w2.heap.size + 1, 0, none⟩) (.inl rfl) _, hw'⟩
  rintro e w3 ⟨rfl, w4, hw4, _, rfl⟩
  subst hw4
  go_wp2
  go_ret2
  exact ⟨rfl, ((HX2.out.alloc _).alloc _).alloc _⟩

set_option maxHeartbeats 1000000 in
theorem compare_unlike (x y : S27) (A B : Option Addr) (c d : Nat) (w : World) (ok : Nat → Prop) (hF : Kd.F k27 w ok A x.f3.length x.f3) (hG : Kd.F k27 w ok B y.f3.length y.f3) (hm : mayV x = true) (hn : mayV y = true) (hcmp : ∀ m m2, MarkOf x m → MarkOf y m2 → m.cmp m2 = 0) :
    Calls Try.prog 9 #[.agg #[.int .u8 x.f0, .int .i64 x.f1, .string x.f2, .slice A x.f3.length c, .int .i64 x.f4], .agg #[.int .u8 y.f0, .int .i64 y.f1, .string y.f2, .slice B y.f3.length d, .int .i64 y.f4]] w fun e w' => e = .returned (.tuple #[.int .u8 0, .int .i64 0]) ∧ Ex (fun _ => False) w w' := by
  have hmf : ∀ (fn : Fn) (first cap : Array Value) (w : World), (Instr.makeFunc fn first cap).run Try.prog w = .ok (.func fn first cap) w := fun _ _ _ _ => rfl
  have HF := Aside0.mk hF
  have HG := Aside0.mk hG
  have HM := Aside0.mk hm
  have HN := Aside0.mk hn
  have HC := Aside0.mk hcmp
  clear hF hG hm hn hcmp
  go_enter Try.func9, Try.ntmps9
  go_wp2_with fail
  refine (of_yes x A c _ ok (Kd.F_alloc (Kd.F_alloc HF.out _) _) HM.out).mono ?_
  rintro e w1 ⟨m, h1, h2, rfl, h4⟩
  obtain ⟨t1, u1, hu1⟩ := m.val_iface
  rw [hu1]
  have H1 := Aside0.mk (And.intro h1 (And.intro h2 hu1))
  clear h1 h2 hu1
  have hx1 := h4
  clear h4
  obtain ⟨hc, hf⟩ := hx1.cells
  have HG1 := Aside0.mk (ex_F hx1 (Kd.F_alloc (Kd.F_alloc HG.out _) _) (fun _ _ h => h))
  have HX1 := Aside0.mk ((((Ex.refl (fun _ => False) w).alloc _).alloc _).trans hx1 (fun _ h => h.elim))
  have hlx : w.heap.size + 1 < w1.heap.size := by have := hx1.size; simp at this; omega
  have hlx0 : w.heap.size < w1.heap.size := by omega
  clear hx1
  go_wp2_with fail
  refine (of_yes y B d _ ok (Kd.F_alloc HG1.out _) HN.out).mono ?_
  rintro e w2 ⟨m2, k1, k2, rfl, k4⟩
  obtain ⟨t2, u2, hu2⟩ := m2.val_iface
  rw [hu2]
  have H2 := Aside0.mk (And.intro k1 (And.intro k2 hu2))
  clear k1 k2 hu2
  have hx2 := k4
  clear k4
  obtain ⟨hc2, hf2⟩ := hx2.cells
  have HB6 := Aside0.mk (hx2.blk (blk_new1 w1 _) (fun h => h))
  have HX2 := Aside0.mk ((HX1.out.alloc _).trans hx2 (fun _ h => h.elim))
  clear hc hf
  go_wp2_with fail
  refine Calls.mono (met_ok 31 _ (fun _ => False) (fun w' => w' = ((w2.alloc (.cells #[.iface t2 u2] 45)).alloc (.cells #[.int .u8 0] 30)).alloc (.cells #[.bool false] 4)) _ (by intro b hb; exact hb.elim) (fun w => enters_ Try.func31 (by kernel_rfl) rfl _ w) ?_) ?_
  · refine (unlike_marks m m2 H1.out.2.1 _ _ _ _ (by rw [H1.out.2.2]; exact blk_alloc (blk_alloc (blk_alloc HB6.out _) _) _) (by rw [H2.out.2.2]; exact blk_alloc (blk_alloc (blk_new1 _ _) _) _) (HC.out m m2 H1.out.1 H2.out.1)).mono ?_
    rintro e w' ⟨rfl, hw'⟩
    exact ⟨rfl, by rw [hw']; exact Ex.refl _ _, hw'⟩
  rintro e w3 ⟨rfl, w4, hw4, _, rfl⟩
  subst hw4
  go_wp2
  go_ret2
  exact ⟨rfl, ((HX2.out.alloc _).alloc _).alloc _⟩

set_option maxHeartbeats 1000000 in
theorem compare_panic (x y : S27) (A B : Option Addr) (c d : Nat) (w : World) (ok : Nat → Prop) (hF : Kd.F k27 w ok A x.f3.length x.f3) (hG : Kd.F k27 w ok B y.f3.length y.f3) (hm : mayV x = true) (hn : mayV y = true) (hcmp : ∀ m m2, MarkOf x m → MarkOf y m2 → m.cmp m2 = 2) :
    Calls Try.prog 9 #[.agg #[.int .u8 x.f0, .int .i64 x.f1, .string x.f2, .slice A x.f3.length c, .int .i64 x.f4], .agg #[.int .u8 y.f0, .int .i64 y.f1, .string y.f2, .slice B y.f3.length d, .int .i64 y.f4]] w fun e w' => e = .returned (.tuple #[.int .u8 2, .int .i64 0]) ∧ Ex (fun _ => False) w w' := by
  have hmf : ∀ (fn : Fn) (first cap : Array Value) (w : World), (Instr.makeFunc fn first cap).run Try.prog w = .ok (.func fn first cap) w := fun _ _ _ _ => rfl
  have HF := Aside0.mk hF
  have HG := Aside0.mk hG
  have HM := Aside0.mk hm
  have HN := Aside0.mk hn
  have HC := Aside0.mk hcmp
  clear hF hG hm hn hcmp
  go_enter Try.func9, Try.ntmps9
  go_wp2_with fail
  refine (of_yes x A c _ ok (Kd.F_alloc (Kd.F_alloc HF.out _) _) HM.out).mono ?_
  rintro e w1 ⟨m, h1, h2, rfl, h4⟩
  obtain ⟨t1, u1, hu1⟩ := m.val_iface
  rw [hu1]
  have H1 := Aside0.mk (And.intro h1 (And.intro h2 hu1))
  clear h1 h2 hu1
  have hx1 := h4
  clear h4
  obtain ⟨hc, hf⟩ := hx1.cells
  have HG1 := Aside0.mk (ex_F hx1 (Kd.F_alloc (Kd.F_alloc HG.out _) _) (fun _ _ h => h))
  have HX1 := Aside0.mk ((((Ex.refl (fun _ => False) w).alloc _).alloc _).trans hx1 (fun _ h => h.elim))
  have hlx : w.heap.size + 1 < w1.heap.size := by have := hx1.size; simp at this; omega
  have hlx0 : w.heap.size < w1.heap.size := by omega
  clear hx1
  go_wp2_with fail
  refine (of_yes y B d _ ok (Kd.F_alloc HG1.out _) HN.out).mono ?_
  rintro e w2 ⟨m2, k1, k2, rfl, k4⟩
  obtain ⟨t2, u2, hu2⟩ := m2.val_iface
  rw [hu2]
  have H2 := Aside0.mk (And.intro k1 (And.intro k2 hu2))
  clear k1 k2 hu2
  have hx2 := k4
  clear k4
  obtain ⟨hc2, hf2⟩ := hx2.cells
  have HB6 := Aside0.mk (hx2.blk (blk_new1 w1 _) (fun h => h))
  have HX2 := Aside0.mk ((HX1.out.alloc _).trans hx2 (fun _ h => h.elim))
  clear hc hf
  go_wp2_with fail
  refine Calls.mono (met_panic 31 _ (fun _ => False) (fun w' => w' = ((w2.alloc (.cells #[.iface t2 u2] 45)).alloc (.cells #[.int .u8 0] 30)).alloc (.cells #[.bool false] 4)) _ (by intro b hb; exact hb.elim) (fun w => enters_ Try.func31 (by kernel_rfl) rfl _ w) ?_) ?_
  · refine (panic_marks m m2 H1.out.2.1 _ _ _ _ (by rw [H1.out.2.2]; exact blk_alloc (blk_alloc (blk_alloc HB6.out _) _) _) (by rw [H2.out.2.2]; exact blk_alloc (blk_alloc (blk_new1 _ _) _) _) (HC.out m m2 H1.out.1 H2.out.1)).mono ?_
    rintro e w' ⟨rfl, hw'⟩
    exact ⟨⟨10, _, .inl rfl, rfl⟩, by rw [hw']; exact Ex.refl _ _, hw'⟩
  rintro e w3 ⟨rfl, w4, hw4, _, rfl⟩
  subst hw4
  go_wp2
  go_ret2
  exact ⟨rfl, ((HX2.out.alloc _).alloc _).alloc _⟩

end Go.Proofs.Ythkemcekcfccpaa.PBrandCompares

namespace Go.Proofs.Ythkemcekcfccpaa.PBrandCompares
open Go.RowKit Go.Proofs.YthkemcekcfccpaaW.PrintWords Go.Proofs.YthkemcekcfccpaaW.PrintLast Go.Proofs.YthkemcekcfccpaaW.PrintMore
open Go.Proofs.Ythkemcekcfccpaa.GBrandCompares
set_option linter.unusedVariables false
set_option linter.unusedSimpArgs false

theorem mark_one (m : Mk) : ∀ (x : S27) (m' : Mk), MarkOf x m → MarkOf x m' → m.keys = m'.keys ∧ (m.keys = true → m' = m) := by
  induction m with
  | pair a b iha ihb =>
    intro x m' h h'
    obtain ⟨h3, y, z, hl, ha, hb⟩ := h
    cases m' with
    | pair a' b' =>
      obtain ⟨_, y', z', hl', ha', hb'⟩ := h'
      rw [hl] at hl'
      cases hl'
      have h1 := iha y a' ha ha'
      have h2 := ihb z b' hb hb'
      simp only [Mk.keys, h1.1, h2.1, Bool.and_eq_true]
      refine ⟨trivial, fun hk => ?_⟩
      rw [h1.2 (h1.1 ▸ hk.1), h2.2 (h2.1 ▸ hk.2)]
    | row v => exact absurd (by rw [hl]; rfl) h'.2
    | nothing => exact absurd h3 h'.2.2.2
    | number n => have := h'.1; omega
    | text s => have := h'.1; omega
    | refer r => have := h'.1; omega
  | row v =>
    intro x m' h h'
    cases m' with
    | row v' => exact ⟨rfl, fun hk => by simp [Mk.keys] at hk⟩
    | pair a b => obtain ⟨_, y, z, hl, _⟩ := h'; exact absurd (by rw [hl]; rfl) h.2
    | nothing => exact absurd h.1 h'.2.2.2
    | number n => have := h.1; have := h'.1; omega
    | text s => have := h.1; have := h'.1; omega
    | refer r => have := h.1; have := h'.1; omega
  | nothing =>
    intro x m' h h'
    cases m' with
    | nothing => exact ⟨rfl, fun _ => rfl⟩
    | row v => exact absurd h'.1 h.2.2.2
    | pair a b => exact absurd h'.1 h.2.2.2
    | number n => exact absurd h'.1 h.1
    | text s => exact absurd h'.1 h.2.1
    | refer r => exact absurd h'.1 h.2.2.1
  | number n =>
    intro x m' h h'
    cases m' with
    | number k => exact ⟨rfl, fun _ => by rw [h.2, h'.2]⟩
    | nothing => exact absurd h.1 h'.1
    | row v => have := h.1; have := h'.1; omega
    | pair a b => have := h.1; have := h'.1; omega
    | text s => have := h.1; have := h'.1; omega
    | refer r => have := h.1; have := h'.1; omega
  | text n =>
    intro x m' h h'
    cases m' with
    | text k => exact ⟨rfl, fun _ => by rw [h.2, h'.2]⟩
    | nothing => exact absurd h.1 h'.2.1
    | row v => have := h.1; have := h'.1; omega
    | pair a b => have := h.1; have := h'.1; omega
    | number s => have := h.1; have := h'.1; omega
    | refer r => have := h.1; have := h'.1; omega
  | refer n =>
    intro x m' h h'
    cases m' with
    | refer k => exact ⟨rfl, fun _ => by rw [h.2, h'.2]⟩
    | nothing => exact absurd h.1 h'.2.2.1
    | row v => have := h.1; have := h'.1; omega
    | pair a b => have := h.1; have := h'.1; omega
    | number s => have := h.1; have := h'.1; omega
    | text r => have := h.1; have := h'.1; omega

theorem mark_deep (m : Mk) : ∀ (x : S27) (n : Nat), MarkOf x m → Fit n x → m.deep ≤ n := by
  induction m with
  | pair a b iha ihb =>
    intro x n h hf
    obtain ⟨h3, y, z, hl, ha, hb⟩ := h
    cases n with
    | zero => exact absurd h3 hf
    | succ n =>
      have hy := (hf h3).2
      rw [hl] at hy
      have h1 := iha y n ha (hy y (by simp))
      have h2 := ihb z n hb (hy z (by simp))
      simp only [Mk.deep]
      omega
  | _ => intro x n _ _; exact Nat.zero_le _

/-- a value that can be a key -/
def KeyV (x : S27) : Prop := ∃ m, MarkOf x m ∧ m.keys = true

theorem key_mark {x : S27} (hm : mayV x = true) (h : KeyV x) : ∃ m, MarkOf x m ∧ Key m ∧ ∀ m2, MarkOf x m2 → m2 = m := by
  obtain ⟨m, h1, h2⟩ := h
  exact ⟨m, h1, ⟨h2, mark_deep m x 16 h1 (may_fit hm)⟩, fun m2 h3 => (mark_one m x m2 h1 h3).2 h2⟩
theorem no_key {x : S27} (h : ¬ KeyV x) (m : Mk) (h1 : MarkOf x m) : m.keys = false := by
  cases hk : m.keys with
  | false => rfl
  | true => exact absurd ⟨m, h1, hk⟩ h

/-- Put, whatever it is called with -/
def PutS (x y : S27) (g mb ob : Nat) (T : Nat → Prop) (rows : List Row) (came : Nat) (w : World) (e : Ending) (w' : World) : Prop :=
  (mayV x = false ∨ mayV y = false) ∧ e = .returned (.tuple #[zval, .bool false, .int .i64 2]) ∧ Ex (fun _ => False) w w' ∨
  (mayV x = true ∧ mayV y = true) ∧ ¬ KeyV x ∧ e = .returned (.tuple #[zval, .bool false, .int .i64 40]) ∧ Ex (fun _ => False) w w' ∨
  (mayV x = true ∧ mayV y = true) ∧ Ex (fun b => b = g ∨ b = mb ∨ b = ob) w w' ∧ ∃ m, MarkOf x m ∧ Key m ∧
    ((m ∉ rows.map (·.m) ∧ e = .returned (.tuple #[zval, .bool false, .int .i64 0]) ∧ ∃ r : Row, r.m = m ∧ r.k = x ∧ r.v = y ∧ r.n = came + 1 ∧ Tab w' g mb ob (fun b => T b ∨ w.heap.size ≤ b) (rows ++ [r]) (came + 1)) ∨
     (∃ (j : Nat) (r : Row), rows[j]? = some r ∧ r.m = m ∧ e = .returned (.tuple #[.agg #[.int .u8 r.v.f0, .int .i64 r.v.f1, .string r.v.f2, .slice r.B r.v.f3.length r.cb, .int .i64 r.v.f4], .bool true, .int .i64 0]) ∧ Kd.F k27 w' T r.B r.v.f3.length r.v.f3 ∧
        ∃ B d, Tab w' g mb ob (fun b => T b ∨ w.heap.size ≤ b) (rows.set j (r.turn y B d)) came))

theorem put_calls (x y : S27) (A B : Option Addr) (c d g mb ob : Nat) (T ok : Nat → Prop) (rows : List Row) (came : Nat) (w : World) (h : Tab w g mb ob T rows came) (hcame : came < 1000000000) (hc : x.f3.length ≤ c) (hd : y.f3.length ≤ d)
    (hF : Kd.F k27 w ok A x.f3.length x.f3) (hF2 : Kd.F k27 w ok B y.f3.length y.f3) (hok : ∀ b, ok b → ¬ T b) : PUT x y A B c d g w (PutS x y g mb ob T rows came w) := by
  cases hm : mayV x with
  | false => exact (put_arg1 x y A B c d g mb _ _ w ok h.hg hF hF2 hm).mono (fun e w' he => .inl ⟨.inl hm, he.1, he.2⟩)
  | true =>
    cases hn : mayV y with
    | false => exact (put_arg2 x y A B c d g mb _ _ w ok h.hg hF hF2 hm hn).mono (fun e w' he => .inl ⟨.inr hn, he.1, he.2⟩)
    | true =>
      by_cases hk : KeyV x
      · obtain ⟨m, h1, h2, h3⟩ := key_mark hm hk
        cases hp : posMk m (rows.map (·.m)) with
        | none =>
          refine (put_new x y A B c d g mb ob T ok rows came w h hcame hc hd hF hF2 hok hm hn m h3 h2 hp).mono (fun e w' he => .inr (.inr ⟨⟨hm, hn⟩, he.2.1, m, h1, h2, .inl ⟨?_, he.1, he.2.2⟩⟩))
          exact fun hmem => posMk_none h2.1 hp m hmem rfl
        | some j =>
          have hj := posMk_key h2.1 (fun m h' => (h.key_all m h').1) hp
          rw [List.getElem?_map] at hj
          cases hr : rows[j]? with
          | none => rw [hr] at hj; simp at hj
          | some r =>
            rw [hr] at hj
            have hrm : r.m = m := by simpa using hj
            exact (put_old x y A B c d g mb ob T ok rows came w h hcame hc hd hF hF2 hok hm hn m h3 h2 j r hp hr hrm).mono (fun e w' he => .inr (.inr ⟨⟨hm, hn⟩, he.2.1, m, h1, h2, .inr ⟨j, r, hr, hrm, he.1, he.2.2.1, he.2.2.2⟩⟩))
      · exact (put_key x y A B c d g mb _ _ w ok h.hg hF hF2 hm hn (no_key hk)).mono (fun e w' he => .inr (.inl ⟨⟨hm, hn⟩, hk, he.1, he.2⟩))

/-- a new table -/
theorem tab_new (w : World) : Tab (((w.alloc (.map #[] 0)).alloc (.map #[] 0)).alloc (.cells #[.map (some w.heap.size), .map (some (w.heap.size + 1)), .int .i64 0] 66)) (w.heap.size + 2) w.heap.size (w.heap.size + 1) (fun b => w.heap.size ≤ b) [] 0 where
  hg := blk_new3 _ _ _ _
  hm := ⟨#[], 0, blk_alloc (blk_alloc (blk_new1 _ _) _) _, rfl⟩
  ho := ⟨#[], 0, blk_alloc (blk_new2 _ _ _) _, rfl⟩
  good := by simp
  tg := by omega
  tm := Nat.le_refl _
  tb := by omega
  ne := by omega
  nums := by simp
  marks := .nil
  cames := .nil

set_option maxRecDepth 10000 in
theorem len_calls (g mb ob : Nat) (T : Nat → Prop) (rows : List Row) (came : Nat) (w : World) (h : Tab w g mb ob T rows came) : Calls Try.prog 17 #[.pointer (some ⟨g, 0, none⟩)] w fun e w' => e = .returned (.int .i64 rows.length) ∧ w' = w := by
  have HG := Aside0.mk h.hg
  obtain ⟨es, cl, hmb, hes⟩ := h.hm
  have hl : es.size = rows.length := by have := congrArg List.length hes; simpa using this
  have c0 := (blk_cell HG.out 0).trans rfl
  have hln : ∀ ty, (Builtin.len_ #[63] ty #[.map (some mb)]).run Try.prog w = .ok (.int .i64 rows.length) w := fun ty => by
    rw [← hl]
    simp [Builtin.len_, run_underlying Try.underlying63, run_getObj_map w mb es cl hmb]
    rfl
  have HLN := Aside0.mk hln
  clear h hes hmb hl hln
  go_enter Try.func17, Try.ntmps17
  go_wp2_with fail
  refine (none_no g mb _ _ _ HG.out).mono ?_
  rintro e w1 ⟨rfl, rfl⟩
  have hln := HLN.out 3
  go_wp2_with fail
  go_ret
  exact ⟨rfl, rfl⟩

end Go.Proofs.Ythkemcekcfccpaa.PBrandCompares

namespace Go.Proofs.Ythkemcekcfccpaa.PBrandCompares
open Go.RowKit Go.Proofs.YthkemcekcfccpaaW.PrintWords Go.Proofs.YthkemcekcfccpaaW.PrintLast Go.Proofs.YthkemcekcfccpaaW.PrintMore
open Go.Proofs.Ythkemcekcfccpaa.GBrandCompares
set_option linter.unusedVariables false
set_option linter.unusedSimpArgs false

theorem wrap_id {n : Int} (h0 : -9223372036854775808 ≤ n) (h1 : n < 9223372036854775808) : wrap64 n = n := by unfold wrap64; omega


theorem bytes_eq (s t : ByteArray) : s.toList = t.toList ↔ s = t := by
  rw [ByteArray.toList_eq, ByteArray.toList_eq]
  obtain ⟨⟨l⟩⟩ := s
  obtain ⟨⟨m⟩⟩ := t
  simp

theorem S27.ext {x y : S27} (h0 : x.f0 = y.f0) (h1 : x.f1 = y.f1) (h2 : x.f2 = y.f2) (h3 : x.f3 = y.f3) (h4 : x.f4 = y.f4) : x = y := by
  cases x; cases y; simp only at h0 h1 h2 h3 h4; simp [h0, h1, h2, h3, h4]

/-- no list of it is longer than an int says -/
inductive Lens : S27 → Prop
  | mk {x : S27} : x.f3.length ≤ 9223372036854775807 → (∀ y ∈ x.f3, Lens y) → Lens x
theorem Lens.len {x : S27} (h : Lens x) : x.f3.length ≤ 9223372036854775807 := by cases h; assumption
theorem Lens.sub {x y : S27} (h : Lens x) (hy : y ∈ x.f3) : Lens y := by cases h with | mk _ h => exact h y hy
theorem Wf.lens {x : S27} : Wf x → Lens x := by
  induction x using S27.ind with
  | h x ih => intro h; exact .mk h.len fun y hy => ih y hy (h.sub hy)


def shapeV (x : S27) : Int := if x.f0 = 3 then (if x.f3.length = 2 then 3 else 5) else x.f0

theorem mark_shape {x : S27} {m : Mk} (hf : Field x) (h : MarkOf x m) : shapeV x = match m with | .nothing => 0 | .number _ => 1 | .text _ => 2 | .refer _ => 4 | .pair _ _ => 3 | .row _ => 5 := by
  unfold shapeV
  unfold Field at hf
  cases m with
  | nothing => have := h.1; have := h.2.1; have := h.2.2.1; have := h.2.2.2; rw [if_neg (by omega)]; show x.f0 = 0; omega
  | number n => have := h.1; rw [if_neg (by omega)]; exact this
  | text s => have := h.1; rw [if_neg (by omega)]; exact this
  | refer r => have := h.1; rw [if_neg (by omega)]; exact this
  | pair a b =>
    obtain ⟨h3, y, z, hl, _⟩ := h
    rw [if_pos h3, if_pos (by rw [hl]; rfl)]
  | row v => rw [if_pos h.1, if_neg h.2]

theorem nil_of_size {s : ByteArray} (h : s.size = 0) : s = ByteArray.empty := by
  obtain ⟨⟨l⟩⟩ := s
  have : l.length = 0 := h
  rw [List.length_eq_zero_iff] at this
  subst this
  rfl
theorem same_of_nil {s t : ByteArray} (h : s.size = 0) (h' : t.size = 0) : s = t := (nil_of_size h).trans (nil_of_size h').symm
theorem list_of_nil {l m : List S27} (h : l.length = 0) (h' : m.length = 0) : l = m := by rw [List.length_eq_zero_iff.1 h, List.length_eq_zero_iff.1 h']

/-- of two of one plain kind: equal just if their marks are -/
theorem plain_cmp {x y : S27} {m m2 : Mk} (hf : Field x) (hg : Field y) (h : MarkOf x m) (h2 : MarkOf y m2) (hs : shapeV x = shapeV y) (h5 : shapeV x ≠ 5) (h3 : shapeV x ≠ 3) : (x = y → m.cmp m2 = 1) ∧ (x ≠ y → m.cmp m2 = 0) := by
  have e1 := mark_shape hf h
  have e2 := mark_shape hg h2
  rw [hs, e2] at e1
  rw [hs, e2] at h5 h3
  cases m with
  | nothing =>
    cases m2 <;> simp at e1
    have k1 : x.f0 = 0 := by have := h.1; have := h.2.1; have := h.2.2.1; have := h.2.2.2; unfold Field at hf; omega
    have k2 : y.f0 = 0 := by have := h2.1; have := h2.2.1; have := h2.2.2.1; have := h2.2.2.2; unfold Field at hg; omega
    refine ⟨fun _ => rfl, fun hn => absurd ?_ hn⟩
    unfold Field at hf hg
    exact S27.ext (by omega) (by omega) (same_of_nil (by omega) (by omega)) (list_of_nil (by omega) (by omega)) (by omega)
  | number n =>
    cases m2 <;> simp at e1
    rename_i n2
    have k1 := h.1; have k2 := h2.1; have l1 := h.2; have l2 := h2.2
    simp only [Mk.cmp]
    refine ⟨fun he => if_pos (by rw [l1, l2, he]), fun hn => if_neg fun he => hn ?_⟩
    unfold Field at hf hg
    exact S27.ext (by omega) (by omega) (same_of_nil (by omega) (by omega)) (list_of_nil (by omega) (by omega)) (by omega)
  | text s =>
    cases m2 <;> simp at e1
    rename_i s2
    have k1 := h.1; have k2 := h2.1; have l1 := h.2; have l2 := h2.2
    simp only [Mk.cmp]
    refine ⟨fun he => if_pos (by rw [l1, l2, he]), fun hn => if_neg fun he => hn ?_⟩
    unfold Field at hf hg
    exact S27.ext (by omega) (by omega) (by rw [← l1, ← l2, he]) (list_of_nil (by omega) (by omega)) (by omega)
  | refer r =>
    cases m2 <;> simp at e1
    rename_i r2
    have k1 := h.1; have k2 := h2.1; have l1 := h.2; have l2 := h2.2
    simp only [Mk.cmp]
    refine ⟨fun he => if_pos (by rw [l1, l2, he]), fun hn => if_neg fun he => hn ?_⟩
    unfold Field at hf hg
    exact S27.ext (by omega) (by omega) (same_of_nil (by omega) (by omega)) (list_of_nil (by omega) (by omega)) (by omega)
  | pair a b => cases m2 <;> simp at e1 <;> exact absurd rfl h3
  | row v => cases m2 <;> simp at e1 <;> exact absurd rfl h5

theorem cmp_unlike {x y : S27} {m m2 : Mk} (hf : Field x) (hg : Field y) (h : MarkOf x m) (h2 : MarkOf y m2) (hs : shapeV x ≠ shapeV y) : m.cmp m2 = 0 := by
  rw [mark_shape hf h, mark_shape hg h2] at hs
  cases m <;> cases m2 <;> first | rfl | exact absurd rfl hs


theorem drop_rd {xs : List S27} {i : Nat} (h : i < xs.length) : xs.drop i = rd_T27 xs (i : Int) :: xs.drop (i + 1) := rd_drop h
theorem keyv_iff {x : S27} {m : Mk} (h : MarkOf x m) : KeyV x ↔ m.keys = true := ⟨fun ⟨m2, h2, hk⟩ => (mark_one m x m2 h h2).1.trans hk, fun hk => ⟨m, h, hk⟩⟩

end Go.Proofs.Ythkemcekcfccpaa.PBrandCompares

namespace Go.Proofs.Ythkemcekcfccpaa.PBrandCompares
open Go.RowKit Go.Proofs.YthkemcekcfccpaaW.PrintWords Go.Proofs.YthkemcekcfccpaaW.PrintLast Go.Proofs.YthkemcekcfccpaaW.PrintMore
open Go.Proofs.Ythkemcekcfccpaa.GBrandCompares
set_option linter.unusedVariables false
set_option linter.unusedSimpArgs false

theorem cells27 : Try.prog.cellsOf 27 = 5 := by kernel_rfl
theorem cells23 : Try.prog.cellsOf 23 = 1 := by kernel_rfl
theorem cells2 : Try.prog.cellsOf 2 = 1 := by kernel_rfl
theorem cells9 : Try.prog.cellsOf 9 = 1 := by kernel_rfl
theorem cells24 : Try.prog.cellsOf 24 = 1 := by kernel_rfl
theorem cells25 : Try.prog.cellsOf 25 = 1 := by kernel_rfl

section
variable {H : Type} {enc : TypeId × Value → H} {w : World} {base : Nat} {spare : Nat → Bool} {held : Bool}

theorem u8_wf {k : Int} (h : (Lit.int .u8 k).wf = true) : 0 ≤ k ∧ k < 256 := by
  simp [Lit.wf] at h
  have h1 : IntKind.u8.min = 0 := by kernel_rfl
  have h2 : IntKind.u8.max = 255 := by kernel_rfl
  omega
theorem five {cs : List Value} (h : cs.length = 5) : ∃ a b c d e, cs = [a, b, c, d, e] := by
  match cs, h with
  | [a, b, c, d, e], _ => exact ⟨a, b, c, d, e, rfl⟩

theorem trod_value (n : Nat) : ∀ (cs : List Value) (x : DataW H × List MemPlace), DataW.trod enc Try.prog w base spare held n 27 cs = some x → ∃ s : S27, k27.K w s cs ∧ Wf s := by
  induction n using Nat.strongRecOn with
  | _ n ih =>
  intro cs x h
  obtain ⟨xs, n1, rfl, _, hl0, hn5, hf⟩ := DataW.trod_struct Try.underlying27 h
  rw [cells27] at hl0
  obtain ⟨v0, v1, v2, v3, v4, rfl⟩ := five hl0
  have g0 : DataW.trod enc Try.prog w base spare held n1 23 (List.take (Try.prog.cellsOf 23) (List.drop 0 [v0, v1, v2, v3, v4])) = xs[0]? := hf 0 _ rfl
  have g1 : DataW.trod enc Try.prog w base spare held n1 2 (List.take (Try.prog.cellsOf 2) (List.drop 1 [v0, v1, v2, v3, v4])) = xs[1]? := hf 1 _ rfl
  have g2 : DataW.trod enc Try.prog w base spare held n1 9 (List.take (Try.prog.cellsOf 9) (List.drop 2 [v0, v1, v2, v3, v4])) = xs[2]? := hf 2 _ rfl
  have g3 : DataW.trod enc Try.prog w base spare held n1 24 (List.take (Try.prog.cellsOf 24) (List.drop 3 [v0, v1, v2, v3, v4])) = xs[3]? := hf 3 _ rfl
  have g4 : DataW.trod enc Try.prog w base spare held n1 25 (List.take (Try.prog.cellsOf 25) (List.drop 4 [v0, v1, v2, v3, v4])) = xs[4]? := hf 4 _ rfl
  have hlen : xs.length = 5 := by rw [hn5]; rfl
  simp only [cells23, cells2, cells9, cells24, cells25, List.drop_zero, List.drop_succ_cons, List.take_succ_cons, List.take_zero] at g0 g1 g2 g3 g4
  rw [List.getElem?_eq_getElem (by omega)] at g0 g1 g2 g3 g4
  obtain ⟨k, e0, _, w0⟩ := DataW.trod_int Try.underlying23 g0
  obtain ⟨a, e1, _, _⟩ := DataW.trod_int Try.underlying2 g1
  obtain ⟨s, e2, _, _⟩ := DataW.trod_string Try.underlying9 g2
  obtain ⟨r, e4, _, _⟩ := DataW.trod_int Try.underlying25 g4
  simp only [List.cons.injEq, and_true] at e0 e1 e2 e4
  subst e0
  subst e1
  subst e2
  subst e4
  have w0' : 0 ≤ k ∧ k < 256 := by
    have := u8_wf w0
    omega
  clear g0 g1 g2 g4
  rcases DataW.trod_slice Try.underlying24 g3 with ⟨e3, _⟩ | ⟨ad, len, cap, elems, rest, n2, hn2, e3, _, hb, hl, hm, hle, hx, _⟩
  · simp only [List.cons.injEq, and_true] at e3
    subst e3
    exact ⟨⟨k, a, s, [], r⟩, k27_mk w ⟨k, a, s, [], r⟩ (A3 := none) (c3 := 0) (Nat.le_refl _) (Kd.C_nil k27 w), .mk w0'.1 w0'.2 (by simp) (by simp)⟩
  · simp only [List.cons.injEq, and_true] at e3
    subst e3
    have hlt : n2 < n1 + 1 := by omega
    have hel : ∀ i, i < len → ∃ s : S27, (∃ cs, cs.length = 5 ∧ k27.K w s cs ∧ ∀ j u, cs[j]? = some u → w.cell? (ad.add (i * 5 + j)) = some u) ∧ Wf s := by
      intro i hi
      have hxi := hx i hi
      rw [List.getElem?_eq_getElem (by omega)] at hxi
      obtain ⟨cs, h1, h2⟩ := Option.bind_eq_some_iff.1 hxi
      rw [cells27] at h1
      obtain ⟨s', hK, hW⟩ := ih n2 hlt cs _ h2
      obtain ⟨_, hl5, hc⟩ := World.cells?_some h1
      refine ⟨s', ⟨cs, hl5, hK, fun j u hj => ?_⟩, hW⟩
      have hj5 : j < 5 := by have := (List.getElem?_eq_some_iff.1 hj).1; omega
      rw [← Go.Deep.add_add, hc j hj5, hj]
    have : Inhabited S27 := ⟨z27⟩
    obtain ⟨S, hS⟩ := Go.Deep.choose_lt hel
    have hlm : len ≤ 9223372036854775807 := by unfold maxLen at hm; omega
    have hlS : ((List.range len).map S).length = len := by simp
    refine ⟨⟨k, a, s, (List.range len).map S, r⟩, ?_, .mk w0'.1 w0'.2 (by rw [hlS]; exact hlm) ?_⟩
    · have hK := k27_mk w ⟨k, a, s, (List.range len).map S, r⟩ (A3 := some ad) (c3 := cap) (by rw [hlS]; exact hl) ?_
      · rw [hlS] at hK; exact hK
      · refine ⟨rfl, by rw [hlS]; exact hlm, fun _ => ⟨ad, rfl, fun j p hj => ?_⟩⟩
        have hj' : j < len := by have := (List.getElem?_eq_some_iff.1 hj).1; simpa using this
        have hp : p = S j := by rw [List.getElem?_map, List.getElem?_range hj'] at hj; exact (Option.some.inj hj).symm
        subst hp
        obtain ⟨⟨cs, h5, hK, hc⟩, _⟩ := hS j hj'
        exact ⟨cs, h5, hK, hc⟩
    · intro y hy
      obtain ⟨i, hi, rfl⟩ := List.mem_map.1 hy
      exact (hS i (List.mem_range.1 hi)).2

set_option maxRecDepth 100000 in
/-- an argument of the values' type -/
theorem open_value {r : Reach} {b0 : Nat} {v : Value} {d : DataW H} {p : List MemPlace} (hv : Value.okWide Try.prog w r b0 27 v) (h : DataW.Trod enc Try.prog w base spare held 27 v d p) :
    ∃ (x : S27) (A : Option Addr) (c : Nat), v = .agg #[.int .u8 x.f0, .int .i64 x.f1, .string x.f2, .slice A x.f3.length c, .int .i64 x.f4] ∧ x.f3.length ≤ c ∧ Kd.C k27 w A x.f3.length x.f3 ∧ Wf x := by
  obtain ⟨⟨cs⟩, rfl, _⟩ := Go.WideShapes.okWide_struct Try.underlying27 hv
  obtain ⟨n, hf⟩ := h
  obtain ⟨x, hK, hW⟩ := trod_value n _ _ hf
  obtain ⟨A, c, hcs, hl, hC⟩ := k27_open hK
  refine ⟨x, A, c, ?_, hl, hC, hW⟩
  have hcs' : cs = [.int .u8 x.f0, .int .i64 x.f1, .string x.f2, .slice A x.f3.length c, .int .i64 x.f4] := hcs
  rw [hcs']

/-- a row of values that is read, as one whose blocks are all that there is -/
theorem heap27 : Kd.Heap k27 := Kd.heap_fix fun d hd => Kd.heap_iso _ (Kd.heap_pair (Kd.heap_int _) (Kd.heap_pair (Kd.heap_int _) (Kd.heap_pair Kd.heap_string (Kd.heap_pair (Kd.heap_slice 27 hd) (Kd.heap_int _)))))
theorem all_F {W : World} {A : Option Addr} {n : Nat} {xs : List S27} (h : Kd.C k27 W A n xs) : Kd.F k27 W (fun k => k < W.heap.size) A n xs := Kd.C_F heap27 h

end

end Go.Proofs.Ythkemcekcfccpaa.PBrandCompares

namespace Go.Proofs.Ythkemcekcfccpaa.PBrandCompares
open Go.RowKit Go.Proofs.YthkemcekcfccpaaW.PrintWords Go.Proofs.YthkemcekcfccpaaW.PrintLast Go.Proofs.YthkemcekcfccpaaW.PrintMore
attribute [local go_sem] max2_int min2_int max_two min_two max_three min_three max_four min_four   -- for this text's walks alone
set_option linter.unusedVariables false
set_option linter.unusedSimpArgs false

/-! ### posternlaw04_alike: function 16 -/
mutual
def posternlaw04_alike.j0 : Nat → Bool → Int → Int → ByteArray → List (S27) → Int → Int → Int → ByteArray → List (S27) → Int → Option (Bool)
  | 0, _, _, _, _, _, _, _, _, _, _, _ => none
  | k + 1, x40, x155000, x155001, x155002, x155003, x155004, x156000, x156001, x156002, x156003, x156004 => if x40 = true then (some false) else (posternlaw04_alike.l0 k 0 x155000 x155001 x155002 x155003 x155004 x156000 x156001 x156002 x156003 x156004)
def posternlaw04_alike.l0 : Nat → Int → Int → Int → ByteArray → List (S27) → Int → Int → Int → ByteArray → List (S27) → Int → Option (Bool)
  | 0, _, _, _, _, _, _, _, _, _, _, _ => none
  | k + 1, x5, x155000, x155001, x155002, x155003, x155004, x156000, x156001, x156002, x156003, x156004 => if x5 < (x155003.length : Int) then (if 0 ≤ x5 then (if x5 < (x156003.length : Int) then ((posternlaw04_alike.f k ((rd_T27 x155003 x5).f0) ((rd_T27 x155003 x5).f1) ((rd_T27 x155003 x5).f2) ((rd_T27 x155003 x5).f3) ((rd_T27 x155003 x5).f4) ((rd_T27 x156003 x5).f0) ((rd_T27 x156003 x5).f1) ((rd_T27 x156003 x5).f2) ((rd_T27 x156003 x5).f3) ((rd_T27 x156003 x5).f4)).bind fun t158 => (if t158 = true then (posternlaw04_alike.l0 k (wrap64 (x5 + 1)) x155000 x155001 x155002 x155003 x155004 x156000 x156001 x156002 x156003 x156004) else (some false))) else (none)) else (none)) else (some true)
def posternlaw04_alike.f : Nat → Int → Int → ByteArray → List (S27) → Int → Int → Int → ByteArray → List (S27) → Int → Option (Bool)
  | 0, _, _, _, _, _, _, _, _, _, _ => none
  | k + 1, a0_0, a0_1, a0_2, l0_3, a0_4, a1_0, a1_1, a1_2, l1_3, a1_4 => if a0_0 = a1_0 then (if a0_1 = a1_1 then (if a0_2.toList = a1_2.toList then (if a0_4 = a1_4 then (posternlaw04_alike.j0 k ((l0_3.length : Int) != (l1_3.length : Int)) a0_0 a0_1 a0_2 l0_3 a0_4 a1_0 a1_1 a1_2 l1_3 a1_4) else (posternlaw04_alike.j0 k true a0_0 a0_1 a0_2 l0_3 a0_4 a1_0 a1_1 a1_2 l1_3 a1_4)) else (posternlaw04_alike.j0 k true a0_0 a0_1 a0_2 l0_3 a0_4 a1_0 a1_1 a1_2 l1_3 a1_4)) else (posternlaw04_alike.j0 k true a0_0 a0_1 a0_2 l0_3 a0_4 a1_0 a1_1 a1_2 l1_3 a1_4)) else (posternlaw04_alike.j0 k true a0_0 a0_1 a0_2 l0_3 a0_4 a1_0 a1_1 a1_2 l1_3 a1_4)
end
theorem posternlaw04_alike.mono_l : ∀ k, (∀ y0 y1 y2 y3 y4 y5 y6 y7 y8 y9, LeO (posternlaw04_alike.f k y0 y1 y2 y3 y4 y5 y6 y7 y8 y9) (posternlaw04_alike.f (k + 1) y0 y1 y2 y3 y4 y5 y6 y7 y8 y9)) ∧ (∀ y0 y1 y2 y3 y4 y5 y6 y7 y8 y9 y10, LeO (posternlaw04_alike.j0 k y0 y1 y2 y3 y4 y5 y6 y7 y8 y9 y10) (posternlaw04_alike.j0 (k + 1) y0 y1 y2 y3 y4 y5 y6 y7 y8 y9 y10)) ∧ (∀ y0 y1 y2 y3 y4 y5 y6 y7 y8 y9 y10, LeO (posternlaw04_alike.l0 k y0 y1 y2 y3 y4 y5 y6 y7 y8 y9 y10) (posternlaw04_alike.l0 (k + 1) y0 y1 y2 y3 y4 y5 y6 y7 y8 y9 y10))
  | 0 => ⟨fun _ _ _ _ _ _ _ _ _ _ r h => by simp [posternlaw04_alike.f] at h, fun _ _ _ _ _ _ _ _ _ _ _ r h => by simp [posternlaw04_alike.j0] at h, fun _ _ _ _ _ _ _ _ _ _ _ r h => by simp [posternlaw04_alike.l0] at h⟩
  | k + 1 => by
    obtain ⟨ih0, ih1, ih2⟩ := posternlaw04_alike.mono_l k
    refine ⟨?_, ?_, ?_⟩
    · intro y0 y1 y2 y3 y4 y5 y6 y7 y8 y9
      unfold posternlaw04_alike.f
      repeat' first
      | (with_reducible exact ih0 _ _ _ _ _ _ _ _ _ _)
      | (with_reducible exact ih1 _ _ _ _ _ _ _ _ _ _ _)
      | (with_reducible exact ih2 _ _ _ _ _ _ _ _ _ _ _)
      | (with_reducible exact LeO.refl _)
      | (with_reducible exact LeO.none _)
      | (with_reducible refine LeO.ite ?_ ?_)
      | (with_reducible refine LeO.bind ?_ (fun _ => ?_))
      | exact ih0 _ _ _ _ _ _ _ _ _ _
      | exact ih1 _ _ _ _ _ _ _ _ _ _ _
      | exact ih2 _ _ _ _ _ _ _ _ _ _ _
      | exact LeO.none _
      | refine LeO.ite ?_ ?_
      | refine LeO.bind ?_ (fun _ => ?_)
    · intro y0 y1 y2 y3 y4 y5 y6 y7 y8 y9 y10
      unfold posternlaw04_alike.j0
      repeat' first
      | (with_reducible exact ih0 _ _ _ _ _ _ _ _ _ _)
      | (with_reducible exact ih1 _ _ _ _ _ _ _ _ _ _ _)
      | (with_reducible exact ih2 _ _ _ _ _ _ _ _ _ _ _)
      | (with_reducible exact LeO.refl _)
      | (with_reducible exact LeO.none _)
      | (with_reducible refine LeO.ite ?_ ?_)
      | (with_reducible refine LeO.bind ?_ (fun _ => ?_))
      | exact ih0 _ _ _ _ _ _ _ _ _ _
      | exact ih1 _ _ _ _ _ _ _ _ _ _ _
      | exact ih2 _ _ _ _ _ _ _ _ _ _ _
      | exact LeO.none _
      | refine LeO.ite ?_ ?_
      | refine LeO.bind ?_ (fun _ => ?_)
    · intro y0 y1 y2 y3 y4 y5 y6 y7 y8 y9 y10
      unfold posternlaw04_alike.l0
      repeat' first
      | (with_reducible exact ih0 _ _ _ _ _ _ _ _ _ _)
      | (with_reducible exact ih1 _ _ _ _ _ _ _ _ _ _ _)
      | (with_reducible exact ih2 _ _ _ _ _ _ _ _ _ _ _)
      | (with_reducible exact LeO.refl _)
      | (with_reducible exact LeO.none _)
      | (with_reducible refine LeO.ite ?_ ?_)
      | (with_reducible refine LeO.bind ?_ (fun _ => ?_))
      | exact ih0 _ _ _ _ _ _ _ _ _ _
      | exact ih1 _ _ _ _ _ _ _ _ _ _ _
      | exact ih2 _ _ _ _ _ _ _ _ _ _ _
      | exact LeO.none _
      | refine LeO.ite ?_ ?_
      | refine LeO.bind ?_ (fun _ => ?_)
theorem posternlaw04_alike.mono : ∀ a0 a1 a2 a3 a4 a5 a6 a7 a8 a9 k, LeO (posternlaw04_alike.f k a0 a1 a2 a3 a4 a5 a6 a7 a8 a9) (posternlaw04_alike.f (k + 1) a0 a1 a2 a3 a4 a5 a6 a7 a8 a9) := by
  intro a0 a1 a2 a3 a4 a5 a6 a7 a8 a9 k
  obtain ⟨ih0, ih1, ih2⟩ := posternlaw04_alike.mono_l k
  exact ih0 a0 a1 a2 a3 a4 a5 a6 a7 a8 a9
def posternlaw04_alike.T6 : Bool × List (List Nat × List Nat) := (true, [([], []), ([0], [0]), ([], []), ([1, 2], [1, 2]), ([3], [3]), ([], []), ([5], [5]), ([], []), ([6, 7], [6, 7]), ([8], [8]), ([4, 9], [4, 9]), ([10], [10])])
def posternlaw04_alike.B6 : List Nat := [0, 1, 0, 7, 15, 0, 32, 0, 224, 480, 1023, 2047]
theorem posternlaw04_alike.tab6 : rtab .any (opsOf Try.f16 6) = posternlaw04_alike.T6 := by kernel_rfl
theorem posternlaw04_alike.bits6 : waitsOk posternlaw04_alike.T6.2 posternlaw04_alike.B6 = true := by kernel_rfl
set_option maxHeartbeats 8000000 in
set_option maxRecDepth 100000 in
theorem posternlaw04_alike.calls (k : Nat) : ∀ (a0_0 : Int) (a0_1 : Int) (a0_2 : ByteArray) (A0_3 : Option Addr) (c0_3 : Nat) (l0_3 : List (S27)) (a0_4 : Int) (a1_0 : Int) (a1_1 : Int) (a1_2 : ByteArray) (A1_3 : Option Addr) (c1_3 : Nat) (l1_3 : List (S27)) (a1_4 : Int) (r : Bool) (w : World) (hr0_3 : Kd.C k27 w A0_3 l0_3.length l0_3) (hc0_3 : l0_3.length ≤ c0_3) (hr1_3 : Kd.C k27 w A1_3 l1_3.length l1_3) (hc1_3 : l1_3.length ≤ c1_3) (h : posternlaw04_alike.f k a0_0 a0_1 a0_2 l0_3 a0_4 a1_0 a1_1 a1_2 l1_3 a1_4 = some r),
    Calls Try.prog 16 #[.agg #[.int .u8 a0_0, .int .i64 a0_1, .string a0_2, .slice A0_3 l0_3.length c0_3, .int .i64 a0_4], .agg #[.int .u8 a1_0, .int .i64 a1_1, .string a1_2, .slice A1_3 l1_3.length c1_3, .int .i64 a1_4]] w fun e w' => e = .returned (.bool r) ∧ Below w.heap.size w w' := by
  induction k using Nat.strongRecOn with
  | _ k ih =>
  intro a0_0 a0_1 a0_2 A0_3 c0_3 l0_3 a0_4 a1_0 a1_1 a1_2 A1_3 c1_3 l1_3 a1_4 r w hr0_3 hc0_3 hr1_3 hc1_3 h
  cases k with
  | zero => exact absurd h (by simp [posternlaw04_alike.f])
  | succ k =>
  simp only [posternlaw04_alike.f] at h
  have hu27 := Try.underlying27
  have HR0_3 := Aside0.mk hr0_3
  have HC0_3 := Aside0.mk hc0_3
  clear hr0_3 hc0_3
  have HR1_3 := Aside0.mk hr1_3
  have HC1_3 := Aside0.mk hc1_3
  clear hr1_3 hc1_3
  have HB := Aside0.mk (Below.refl w.heap.size w)
  have H : (if a0_0 = a1_0 then (if a0_1 = a1_1 then (if a0_2.toList = a1_2.toList then (if a0_4 = a1_4 then (posternlaw04_alike.j0 k ((l0_3.length : Int) != (l1_3.length : Int)) a0_0 a0_1 a0_2 l0_3 a0_4 a1_0 a1_1 a1_2 l1_3 a1_4) else (posternlaw04_alike.j0 k true a0_0 a0_1 a0_2 l0_3 a0_4 a1_0 a1_1 a1_2 l1_3 a1_4)) else (posternlaw04_alike.j0 k true a0_0 a0_1 a0_2 l0_3 a0_4 a1_0 a1_1 a1_2 l1_3 a1_4)) else (posternlaw04_alike.j0 k true a0_0 a0_1 a0_2 l0_3 a0_4 a1_0 a1_1 a1_2 l1_3 a1_4)) else (posternlaw04_alike.j0 k true a0_0 a0_1 a0_2 l0_3 a0_4 a1_0 a1_1 a1_2 l1_3 a1_4)) = some r := h
  clear h
  have HC3 := Aside0.mk H
  clear H
  go_enter Try.func16, Try.ntmps16
  go_upto_region 1 with (first | ((with_reducible refine gate_dst (N := 2) rfl ?_); (try (refine gate_guard (by rfl) ?_; dsimp only)); refine box_event ?hg (N := 2) ?hd (cs := #[.int .u8 a0_0, .int .i64 a0_1, .string a0_2, .slice A0_3 l0_3.length c0_3, .int .i64 a0_4]) (t := 27) ?hr ?_; (case hd => rfl); (case hg => rfl); (case hr => first | (go_simp; done) | (go_simp; rfl)); intro gb154 hg w4 hbox hb; have n0_ := Aside0.mk (below_step (by repeat (first | (with_reducible first | exact HB.out | apply below_alloc | apply pw_below_drewN | apply below_drew1) | exact HB.out)) hb); have n1_ := Aside0.mk (hbox); have n2_ := Aside0.mk ((by rw [hg]; exact (below_size (by repeat (first | (with_reducible first | exact HB.out | apply below_alloc | apply pw_below_drewN | apply below_drew1) | exact HB.out))) : w.heap.size ≤ gb154)); have n3_ := Aside0.mk ((by rw [hg]; exact (below_size (by repeat (first | (with_reducible first | exact HB.out | apply below_alloc | apply pw_below_drewN | apply below_drew1) | exact HB.out))) : w.heap.size ≤ gb154)); clear HB; have HB := n0_; have BK154 := n1_; have GW154 := n2_; have GE154 := n3_; clear n0_ n1_ n2_ n3_; clear hb hbox hg) | ((with_reducible refine gate_dst (N := 3) rfl ?_); (try (refine gate_guard (by rfl) ?_; dsimp only)); refine box_event ?hg (N := 3) ?hd (cs := #[.int .u8 a1_0, .int .i64 a1_1, .string a1_2, .slice A1_3 l1_3.length c1_3, .int .i64 a1_4]) (t := 27) ?hr ?_; (case hd => rfl); (case hg => rfl); (case hr => first | (go_simp; done) | (go_simp; rfl)); intro gb155 hg w5 hbox hb; have n0_ := Aside0.mk (blk_below (g := gb154) (o := .cells #[.int .u8 a0_0, .int .i64 a0_1, .string a0_2, .slice A0_3 l0_3.length c0_3, .int .i64 a0_4] 27 (0, 0)) (by (with_reducible repeat (first | refine blk_drewN ?_ _ | refine blk_drew ?_ | refine blk_alloc ?_ _)); exact BK154.out) hb); have n1_ := Aside0.mk (below_step (by repeat (first | (with_reducible first | exact HB.out | apply below_alloc | apply pw_below_drewN | apply below_drew1 | refine below_set ?_ GE154.out) | exact HB.out)) hb); have n2_ := Aside0.mk (hbox); have n3_ := Aside0.mk ((by rw [hg]; exact (below_size (by repeat (first | (with_reducible first | exact HB.out | apply below_alloc | apply pw_below_drewN | apply below_drew1 | refine below_set ?_ GE154.out) | exact HB.out))) : w.heap.size ≤ gb155)); have n4_ := Aside0.mk ((by rw [hg]; exact (below_size (by repeat (first | (with_reducible first | exact HB.out | apply below_alloc | apply pw_below_drewN | apply below_drew1 | refine below_set ?_ GE154.out) | exact HB.out))) : w.heap.size ≤ gb155)); have n5_ := Aside0.mk ((by rw [hg]; exact Nat.ne_of_lt (blk_lt (g := gb154) (o := .cells #[.int .u8 a0_0, .int .i64 a0_1, .string a0_2, .slice A0_3 l0_3.length c0_3, .int .i64 a0_4] 27 (0, 0)) (by (with_reducible repeat (first | refine blk_drewN ?_ _ | refine blk_drew ?_ | refine blk_alloc ?_ _)); exact BK154.out)) : gb154 ≠ gb155)); have n6_ := Aside0.mk ((by rw [hg]; exact Nat.ne_of_gt (blk_lt (g := gb154) (o := .cells #[.int .u8 a0_0, .int .i64 a0_1, .string a0_2, .slice A0_3 l0_3.length c0_3, .int .i64 a0_4] 27 (0, 0)) (by (with_reducible repeat (first | refine blk_drewN ?_ _ | refine blk_drew ?_ | refine blk_alloc ?_ _)); exact BK154.out)) : gb155 ≠ gb154)); clear BK154; clear HB; have BK154 := n0_; have HB := n1_; have BK155 := n2_; have GW155 := n3_; have GE155 := n4_; have NB154_155 := n5_; have NB155_154 := n6_; clear n0_ n1_ n2_ n3_ n4_ n5_ n6_; clear hb hbox hg))
  (try simp only [Act.put, List.setIfInBounds_toArray, List.set_cons_zero, List.set_cons_succ])
  go_cut [40] (fun v40 wc => ∃ (kq : Nat) (x40_2 : Bool), v40 = .bool x40_2 ∧ Aside0 (posternlaw04_alike.j0 kq x40_2 a0_0 a0_1 a0_2 l0_3 a0_4 a1_0 a1_1 a1_2 l1_3 a1_4 = some r) ∧ Aside0 (kq ≤ k) ∧ Aside0 (wc.heap[gb154]? = some (.cells #[.int .u8 a0_0, .int .i64 a0_1, .string a0_2, (.slice A0_3 l0_3.length c0_3), .int .i64 a0_4] 27 (0, 0))) ∧ Aside0 (wc.heap[gb155]? = some (.cells #[.int .u8 a1_0, .int .i64 a1_1, .string a1_2, (.slice A1_3 l1_3.length c1_3), .int .i64 a1_4] 27 (0, 0))) ∧ Aside0 (Below w.heap.size w wc))
  case first =>
    have H := HC3.out
    clear HC3
    by_cases c6 : a0_0 = a1_0
    · rw [if_pos c6] at H
      have c6b0 : (a0_0 == a1_0) = true := beq_iff_eq.mpr c6
      have c6b1 : (a0_0 != a1_0) = false := bne_eq_false_iff_eq.mpr c6
      clear c6
      (first | rw [c6b0] | (simp only [i64_w, i32_w]; rw [c6b0]) | skip)
      by_cases c7 : a0_1 = a1_1
      · rw [if_pos c7] at H
        have c7b0 : (a0_1 == a1_1) = true := beq_iff_eq.mpr c7
        have c7b1 : (a0_1 != a1_1) = false := bne_eq_false_iff_eq.mpr c7
        clear c7
        by_cases c8 : a0_2.toList = a1_2.toList
        · rw [if_pos c8] at H
          have c8b0 : (a0_2.toList == a1_2.toList) = true := beq_iff_eq.mpr c8
          have c8b1 : (a0_2.toList != a1_2.toList) = false := bne_eq_false_iff_eq.mpr c8
          clear c8
          by_cases c9 : a0_4 = a1_4
          · rw [if_pos c9] at H
            have c9b0 : (a0_4 == a1_4) = true := beq_iff_eq.mpr c9
            have c9b1 : (a0_4 != a1_4) = false := bne_eq_false_iff_eq.mpr c9
            clear c9
            have H' := Aside0.mk H
            clear H
            have hnb10 := NB154_155.out
            have hnc10 := NB155_154.out
            have hcz11_0 : w5.cell? ⟨gb154, 0, none⟩ = some (.int .u8 a0_0) := (blk_cell BK154.out 0).trans rfl
            have hcz11_1 : w5.cell? ⟨gb154, 1, none⟩ = some (.int .i64 a0_1) := (blk_cell BK154.out 1).trans rfl
            have hcz11_2 : w5.cell? ⟨gb154, 2, none⟩ = some (.string a0_2) := (blk_cell BK154.out 2).trans rfl
            have hcz11_3 : w5.cell? ⟨gb154, 3, none⟩ = some (.slice A0_3 l0_3.length c0_3) := (blk_cell BK154.out 3).trans rfl
            have hcz11_4 : w5.cell? ⟨gb154, 4, none⟩ = some (.int .i64 a0_4) := (blk_cell BK154.out 4).trans rfl
            have hfz11_0 := blk_frozen BK154.out 0
            have hfz11_1 := blk_frozen BK154.out 1
            have hfz11_2 := blk_frozen BK154.out 2
            have hfz11_3 := blk_frozen BK154.out 3
            have hfz11_4 := blk_frozen BK154.out 4
            have hcz12_0 : w5.cell? ⟨gb155, 0, none⟩ = some (.int .u8 a1_0) := (blk_cell BK155.out 0).trans rfl
            have hcz12_1 : w5.cell? ⟨gb155, 1, none⟩ = some (.int .i64 a1_1) := (blk_cell BK155.out 1).trans rfl
            have hcz12_2 : w5.cell? ⟨gb155, 2, none⟩ = some (.string a1_2) := (blk_cell BK155.out 2).trans rfl
            have hcz12_3 : w5.cell? ⟨gb155, 3, none⟩ = some (.slice A1_3 l1_3.length c1_3) := (blk_cell BK155.out 3).trans rfl
            have hcz12_4 : w5.cell? ⟨gb155, 4, none⟩ = some (.int .i64 a1_4) := (blk_cell BK155.out 4).trans rfl
            have hfz12_0 := blk_frozen BK155.out 0
            have hfz12_1 := blk_frozen BK155.out 1
            have hfz12_2 := blk_frozen BK155.out 2
            have hfz12_3 := blk_frozen BK155.out 3
            have hfz12_4 := blk_frozen BK155.out 4
            go_wp2
            go_meet
            case rel => exact ⟨_, (((l0_3.length : Int) != (l1_3.length : Int))), (by first | rfl | (simp; done) | (simp [*]; done)), H', ⟨by first | omega | exact Nat.le_refl _⟩, ⟨by (with_reducible repeat (first | refine blk_drewN ?_ _ | refine blk_drew ?_ | refine blk_alloc ?_ _)); exact BK154.out⟩, ⟨by (with_reducible repeat (first | refine blk_drewN ?_ _ | refine blk_drew ?_ | refine blk_alloc ?_ _)); exact BK155.out⟩, ⟨by repeat (first | (with_reducible first | exact HB.out | apply below_alloc | apply pw_below_drewN | apply below_drew1 | refine below_set ?_ GE154.out | refine below_set ?_ GE155.out) | exact HB.out)⟩⟩
          · rw [if_neg c9] at H
            have c9b0 : (a0_4 == a1_4) = false := beq_eq_false_iff_ne.mpr c9
            have c9b1 : (a0_4 != a1_4) = true := bne_iff_ne.mpr c9
            have H' := Aside0.mk H
            clear H
            have hnb13 := NB154_155.out
            have hnc13 := NB155_154.out
            have hcz14_0 : w5.cell? ⟨gb154, 0, none⟩ = some (.int .u8 a0_0) := (blk_cell BK154.out 0).trans rfl
            have hcz14_1 : w5.cell? ⟨gb154, 1, none⟩ = some (.int .i64 a0_1) := (blk_cell BK154.out 1).trans rfl
            have hcz14_2 : w5.cell? ⟨gb154, 2, none⟩ = some (.string a0_2) := (blk_cell BK154.out 2).trans rfl
            have hcz14_3 : w5.cell? ⟨gb154, 3, none⟩ = some (.slice A0_3 l0_3.length c0_3) := (blk_cell BK154.out 3).trans rfl
            have hcz14_4 : w5.cell? ⟨gb154, 4, none⟩ = some (.int .i64 a0_4) := (blk_cell BK154.out 4).trans rfl
            have hfz14_0 := blk_frozen BK154.out 0
            have hfz14_1 := blk_frozen BK154.out 1
            have hfz14_2 := blk_frozen BK154.out 2
            have hfz14_3 := blk_frozen BK154.out 3
            have hfz14_4 := blk_frozen BK154.out 4
            have hcz15_0 : w5.cell? ⟨gb155, 0, none⟩ = some (.int .u8 a1_0) := (blk_cell BK155.out 0).trans rfl
            have hcz15_1 : w5.cell? ⟨gb155, 1, none⟩ = some (.int .i64 a1_1) := (blk_cell BK155.out 1).trans rfl
            have hcz15_2 : w5.cell? ⟨gb155, 2, none⟩ = some (.string a1_2) := (blk_cell BK155.out 2).trans rfl
            have hcz15_3 : w5.cell? ⟨gb155, 3, none⟩ = some (.slice A1_3 l1_3.length c1_3) := (blk_cell BK155.out 3).trans rfl
            have hcz15_4 : w5.cell? ⟨gb155, 4, none⟩ = some (.int .i64 a1_4) := (blk_cell BK155.out 4).trans rfl
            have hfz15_0 := blk_frozen BK155.out 0
            have hfz15_1 := blk_frozen BK155.out 1
            have hfz15_2 := blk_frozen BK155.out 2
            have hfz15_3 := blk_frozen BK155.out 3
            have hfz15_4 := blk_frozen BK155.out 4
            go_wp2
            go_meet
            case rel => exact ⟨_, (true), (by first | rfl | (simp; done) | (simp [*]; done)), H', ⟨by first | omega | exact Nat.le_refl _⟩, ⟨by (with_reducible repeat (first | refine blk_drewN ?_ _ | refine blk_drew ?_ | refine blk_alloc ?_ _)); exact BK154.out⟩, ⟨by (with_reducible repeat (first | refine blk_drewN ?_ _ | refine blk_drew ?_ | refine blk_alloc ?_ _)); exact BK155.out⟩, ⟨by repeat (first | (with_reducible first | exact HB.out | apply below_alloc | apply pw_below_drewN | apply below_drew1 | refine below_set ?_ GE154.out | refine below_set ?_ GE155.out) | exact HB.out)⟩⟩
        · rw [if_neg c8] at H
          have c8b0 : (a0_2.toList == a1_2.toList) = false := beq_eq_false_iff_ne.mpr c8
          have c8b1 : (a0_2.toList != a1_2.toList) = true := bne_iff_ne.mpr c8
          have H' := Aside0.mk H
          clear H
          have hnb16 := NB154_155.out
          have hnc16 := NB155_154.out
          have hcz17_0 : w5.cell? ⟨gb154, 0, none⟩ = some (.int .u8 a0_0) := (blk_cell BK154.out 0).trans rfl
          have hcz17_1 : w5.cell? ⟨gb154, 1, none⟩ = some (.int .i64 a0_1) := (blk_cell BK154.out 1).trans rfl
          have hcz17_2 : w5.cell? ⟨gb154, 2, none⟩ = some (.string a0_2) := (blk_cell BK154.out 2).trans rfl
          have hcz17_3 : w5.cell? ⟨gb154, 3, none⟩ = some (.slice A0_3 l0_3.length c0_3) := (blk_cell BK154.out 3).trans rfl
          have hcz17_4 : w5.cell? ⟨gb154, 4, none⟩ = some (.int .i64 a0_4) := (blk_cell BK154.out 4).trans rfl
          have hfz17_0 := blk_frozen BK154.out 0
          have hfz17_1 := blk_frozen BK154.out 1
          have hfz17_2 := blk_frozen BK154.out 2
          have hfz17_3 := blk_frozen BK154.out 3
          have hfz17_4 := blk_frozen BK154.out 4
          have hcz18_0 : w5.cell? ⟨gb155, 0, none⟩ = some (.int .u8 a1_0) := (blk_cell BK155.out 0).trans rfl
          have hcz18_1 : w5.cell? ⟨gb155, 1, none⟩ = some (.int .i64 a1_1) := (blk_cell BK155.out 1).trans rfl
          have hcz18_2 : w5.cell? ⟨gb155, 2, none⟩ = some (.string a1_2) := (blk_cell BK155.out 2).trans rfl
          have hcz18_3 : w5.cell? ⟨gb155, 3, none⟩ = some (.slice A1_3 l1_3.length c1_3) := (blk_cell BK155.out 3).trans rfl
          have hcz18_4 : w5.cell? ⟨gb155, 4, none⟩ = some (.int .i64 a1_4) := (blk_cell BK155.out 4).trans rfl
          have hfz18_0 := blk_frozen BK155.out 0
          have hfz18_1 := blk_frozen BK155.out 1
          have hfz18_2 := blk_frozen BK155.out 2
          have hfz18_3 := blk_frozen BK155.out 3
          have hfz18_4 := blk_frozen BK155.out 4
          go_wp2
          go_meet
          case rel => exact ⟨_, (true), (by first | rfl | (simp; done) | (simp [*]; done)), H', ⟨by first | omega | exact Nat.le_refl _⟩, ⟨by (with_reducible repeat (first | refine blk_drewN ?_ _ | refine blk_drew ?_ | refine blk_alloc ?_ _)); exact BK154.out⟩, ⟨by (with_reducible repeat (first | refine blk_drewN ?_ _ | refine blk_drew ?_ | refine blk_alloc ?_ _)); exact BK155.out⟩, ⟨by repeat (first | (with_reducible first | exact HB.out | apply below_alloc | apply pw_below_drewN | apply below_drew1 | refine below_set ?_ GE154.out | refine below_set ?_ GE155.out) | exact HB.out)⟩⟩
      · rw [if_neg c7] at H
        have c7b0 : (a0_1 == a1_1) = false := beq_eq_false_iff_ne.mpr c7
        have c7b1 : (a0_1 != a1_1) = true := bne_iff_ne.mpr c7
        have H' := Aside0.mk H
        clear H
        have hnb19 := NB154_155.out
        have hnc19 := NB155_154.out
        have hcz20_0 : w5.cell? ⟨gb154, 0, none⟩ = some (.int .u8 a0_0) := (blk_cell BK154.out 0).trans rfl
        have hcz20_1 : w5.cell? ⟨gb154, 1, none⟩ = some (.int .i64 a0_1) := (blk_cell BK154.out 1).trans rfl
        have hcz20_2 : w5.cell? ⟨gb154, 2, none⟩ = some (.string a0_2) := (blk_cell BK154.out 2).trans rfl
        have hcz20_3 : w5.cell? ⟨gb154, 3, none⟩ = some (.slice A0_3 l0_3.length c0_3) := (blk_cell BK154.out 3).trans rfl
        have hcz20_4 : w5.cell? ⟨gb154, 4, none⟩ = some (.int .i64 a0_4) := (blk_cell BK154.out 4).trans rfl
        have hfz20_0 := blk_frozen BK154.out 0
        have hfz20_1 := blk_frozen BK154.out 1
        have hfz20_2 := blk_frozen BK154.out 2
        have hfz20_3 := blk_frozen BK154.out 3
        have hfz20_4 := blk_frozen BK154.out 4
        have hcz21_0 : w5.cell? ⟨gb155, 0, none⟩ = some (.int .u8 a1_0) := (blk_cell BK155.out 0).trans rfl
        have hcz21_1 : w5.cell? ⟨gb155, 1, none⟩ = some (.int .i64 a1_1) := (blk_cell BK155.out 1).trans rfl
        have hcz21_2 : w5.cell? ⟨gb155, 2, none⟩ = some (.string a1_2) := (blk_cell BK155.out 2).trans rfl
        have hcz21_3 : w5.cell? ⟨gb155, 3, none⟩ = some (.slice A1_3 l1_3.length c1_3) := (blk_cell BK155.out 3).trans rfl
        have hcz21_4 : w5.cell? ⟨gb155, 4, none⟩ = some (.int .i64 a1_4) := (blk_cell BK155.out 4).trans rfl
        have hfz21_0 := blk_frozen BK155.out 0
        have hfz21_1 := blk_frozen BK155.out 1
        have hfz21_2 := blk_frozen BK155.out 2
        have hfz21_3 := blk_frozen BK155.out 3
        have hfz21_4 := blk_frozen BK155.out 4
        go_wp2
        go_meet
        case rel => exact ⟨_, (true), (by first | rfl | (simp; done) | (simp [*]; done)), H', ⟨by first | omega | exact Nat.le_refl _⟩, ⟨by (with_reducible repeat (first | refine blk_drewN ?_ _ | refine blk_drew ?_ | refine blk_alloc ?_ _)); exact BK154.out⟩, ⟨by (with_reducible repeat (first | refine blk_drewN ?_ _ | refine blk_drew ?_ | refine blk_alloc ?_ _)); exact BK155.out⟩, ⟨by repeat (first | (with_reducible first | exact HB.out | apply below_alloc | apply pw_below_drewN | apply below_drew1 | refine below_set ?_ GE154.out | refine below_set ?_ GE155.out) | exact HB.out)⟩⟩
    · rw [if_neg c6] at H
      have c6b0 : (a0_0 == a1_0) = false := beq_eq_false_iff_ne.mpr c6
      have c6b1 : (a0_0 != a1_0) = true := bne_iff_ne.mpr c6
      (first | rw [c6b0] | (simp only [i64_w, i32_w]; rw [c6b0]) | skip)
      have H' := Aside0.mk H
      clear H
      have hnb22 := NB154_155.out
      have hnc22 := NB155_154.out
      have hcz23_0 : w5.cell? ⟨gb154, 0, none⟩ = some (.int .u8 a0_0) := (blk_cell BK154.out 0).trans rfl
      have hcz23_1 : w5.cell? ⟨gb154, 1, none⟩ = some (.int .i64 a0_1) := (blk_cell BK154.out 1).trans rfl
      have hcz23_2 : w5.cell? ⟨gb154, 2, none⟩ = some (.string a0_2) := (blk_cell BK154.out 2).trans rfl
      have hcz23_3 : w5.cell? ⟨gb154, 3, none⟩ = some (.slice A0_3 l0_3.length c0_3) := (blk_cell BK154.out 3).trans rfl
      have hcz23_4 : w5.cell? ⟨gb154, 4, none⟩ = some (.int .i64 a0_4) := (blk_cell BK154.out 4).trans rfl
      have hfz23_0 := blk_frozen BK154.out 0
      have hfz23_1 := blk_frozen BK154.out 1
      have hfz23_2 := blk_frozen BK154.out 2
      have hfz23_3 := blk_frozen BK154.out 3
      have hfz23_4 := blk_frozen BK154.out 4
      have hcz24_0 : w5.cell? ⟨gb155, 0, none⟩ = some (.int .u8 a1_0) := (blk_cell BK155.out 0).trans rfl
      have hcz24_1 : w5.cell? ⟨gb155, 1, none⟩ = some (.int .i64 a1_1) := (blk_cell BK155.out 1).trans rfl
      have hcz24_2 : w5.cell? ⟨gb155, 2, none⟩ = some (.string a1_2) := (blk_cell BK155.out 2).trans rfl
      have hcz24_3 : w5.cell? ⟨gb155, 3, none⟩ = some (.slice A1_3 l1_3.length c1_3) := (blk_cell BK155.out 3).trans rfl
      have hcz24_4 : w5.cell? ⟨gb155, 4, none⟩ = some (.int .i64 a1_4) := (blk_cell BK155.out 4).trans rfl
      have hfz24_0 := blk_frozen BK155.out 0
      have hfz24_1 := blk_frozen BK155.out 1
      have hfz24_2 := blk_frozen BK155.out 2
      have hfz24_3 := blk_frozen BK155.out 3
      have hfz24_4 := blk_frozen BK155.out 4
      go_wp2
      go_meet
      case rel => exact ⟨_, (true), (by first | rfl | (simp; done) | (simp [*]; done)), H', ⟨by first | omega | exact Nat.le_refl _⟩, ⟨by (with_reducible repeat (first | refine blk_drewN ?_ _ | refine blk_drew ?_ | refine blk_alloc ?_ _)); exact BK154.out⟩, ⟨by (with_reducible repeat (first | refine blk_drewN ?_ _ | refine blk_drew ?_ | refine blk_alloc ?_ _)); exact BK155.out⟩, ⟨by repeat (first | (with_reducible first | exact HB.out | apply below_alloc | apply pw_below_drewN | apply below_drew1 | refine below_set ?_ GE154.out | refine below_set ?_ GE155.out) | exact HB.out)⟩⟩
  case rest =>
    clear HC3
    try clear c1
    try clear c2
    try clear p2
    try clear c6
    try clear c6b0
    try clear c6b1
    try clear c7
    try clear c7b0
    try clear c7b1
    try clear c8
    try clear c8b0
    try clear c8b1
    try clear c9
    try clear c9b0
    try clear c9b1
    try clear c10
    try clear c13
    try clear c16
    try clear c19
    try clear c22
    try clear hcz11_0
    try clear hcz11_1
    try clear hcz11_2
    try clear hcz11_3
    try clear hcz11_4
    try clear hcz12_0
    try clear hcz12_1
    try clear hcz12_2
    try clear hcz12_3
    try clear hcz12_4
    try clear hcz14_0
    try clear hcz14_1
    try clear hcz14_2
    try clear hcz14_3
    try clear hcz14_4
    try clear hcz15_0
    try clear hcz15_1
    try clear hcz15_2
    try clear hcz15_3
    try clear hcz15_4
    try clear hcz17_0
    try clear hcz17_1
    try clear hcz17_2
    try clear hcz17_3
    try clear hcz17_4
    try clear hcz18_0
    try clear hcz18_1
    try clear hcz18_2
    try clear hcz18_3
    try clear hcz18_4
    try clear hcz20_0
    try clear hcz20_1
    try clear hcz20_2
    try clear hcz20_3
    try clear hcz20_4
    try clear hcz21_0
    try clear hcz21_1
    try clear hcz21_2
    try clear hcz21_3
    try clear hcz21_4
    try clear hcz23_0
    try clear hcz23_1
    try clear hcz23_2
    try clear hcz23_3
    try clear hcz23_4
    try clear hcz24_0
    try clear hcz24_1
    try clear hcz24_2
    try clear hcz24_3
    try clear hcz24_4
    try clear hfz11_0
    try clear hfz11_1
    try clear hfz11_2
    try clear hfz11_3
    try clear hfz11_4
    try clear hfz12_0
    try clear hfz12_1
    try clear hfz12_2
    try clear hfz12_3
    try clear hfz12_4
    try clear hfz14_0
    try clear hfz14_1
    try clear hfz14_2
    try clear hfz14_3
    try clear hfz14_4
    try clear hfz15_0
    try clear hfz15_1
    try clear hfz15_2
    try clear hfz15_3
    try clear hfz15_4
    try clear hfz17_0
    try clear hfz17_1
    try clear hfz17_2
    try clear hfz17_3
    try clear hfz17_4
    try clear hfz18_0
    try clear hfz18_1
    try clear hfz18_2
    try clear hfz18_3
    try clear hfz18_4
    try clear hfz20_0
    try clear hfz20_1
    try clear hfz20_2
    try clear hfz20_3
    try clear hfz20_4
    try clear hfz21_0
    try clear hfz21_1
    try clear hfz21_2
    try clear hfz21_3
    try clear hfz21_4
    try clear hfz23_0
    try clear hfz23_1
    try clear hfz23_2
    try clear hfz23_3
    try clear hfz23_4
    try clear hfz24_0
    try clear hfz24_1
    try clear hfz24_2
    try clear hfz24_3
    try clear hfz24_4
    obtain ⟨kq, x40_2, rfl, HA, HJ2, BK154, BK155, HB⟩ := hcut
    cases kq with
    | zero => exact absurd HA.out (by simp [posternlaw04_alike.j0])
    | succ kj2 =>
      have H := HA.out
      clear HA
      simp only [posternlaw04_alike.j0] at H
      by_cases c25 : x40_2 = true
      · subst c25
        have H1 : (some false) = some r := by rw [if_pos rfl] at H; exact H
        clear H
        have H := H1
        clear H1
        obtain rfl := Option.some.inj H
        go_wp2
        go_ret
        exact ⟨by first | rfl | (simp [errW_none, errW_some] <;> rfl) | (simp [*, errW_none, errW_some] <;> rfl), by repeat (first | (with_reducible first | exact HB.out | apply below_alloc | apply pw_below_drewN | apply below_drew1 | refine below_set ?_ GE154.out | refine below_set ?_ GE155.out) | exact HB.out)⟩
      · replace c25 := Bool.eq_false_iff.mpr c25
        subst c25
        have H1 : (posternlaw04_alike.l0 kj2 0 a0_0 a0_1 a0_2 l0_3 a0_4 a1_0 a1_1 a1_2 l1_3 a1_4) = some r := by rw [if_neg (show ¬ (false = true) by decide)] at H; exact H
        clear H
        have H := H1
        clear H1
        have H' := Aside0.mk H
        clear H
        go_wp2
        go_loopg [5] kj2 (fun kq v5 w' => ∃ (x5_2 : Int), v5 = .int .i64 x5_2 ∧ Aside0 (posternlaw04_alike.l0 kq x5_2 a0_0 a0_1 a0_2 l0_3 a0_4 a1_0 a1_1 a1_2 l1_3 a1_4 = some r) ∧ Aside0 (kq ≤ kj2) ∧ Aside0 (w'.heap[gb154]? = some (.cells #[.int .u8 a0_0, .int .i64 a0_1, .string a0_2, (.slice A0_3 l0_3.length c0_3), .int .i64 a0_4] 27 (0, 0))) ∧ Aside0 (w'.heap[gb155]? = some (.cells #[.int .u8 a1_0, .int .i64 a1_1, .string a1_2, (.slice A1_3 l1_3.length c1_3), .int .i64 a1_4] 27 (0, 0))) ∧ Aside0 (Below w.heap.size w w'))
        case atStart => exact ⟨(0), (by first | rfl | (simp; done) | (simp [*]; done)), H', ⟨Nat.le_refl _⟩, ⟨by (with_reducible repeat (first | refine blk_drewN ?_ _ | refine blk_drew ?_ | refine blk_alloc ?_ _)); exact BK154.out⟩, ⟨by (with_reducible repeat (first | refine blk_drewN ?_ _ | refine blk_drew ?_ | refine blk_alloc ?_ _)); exact BK155.out⟩, ⟨by repeat (first | (with_reducible first | exact HB.out | apply below_alloc | apply pw_below_drewN | apply below_drew1 | refine below_set ?_ GE154.out | refine below_set ?_ GE155.out) | exact HB.out)⟩⟩
        case round =>
          clear H'
          try clear c1
          try clear c2
          try clear p2
          try clear c6
          try clear c6b0
          try clear c6b1
          try clear c7
          try clear c7b0
          try clear c7b1
          try clear c8
          try clear c8b0
          try clear c8b1
          try clear c9
          try clear c9b0
          try clear c9b1
          try clear c10
          try clear c13
          try clear c16
          try clear c19
          try clear c22
          try clear c25
          try clear hcz11_0
          try clear hcz11_1
          try clear hcz11_2
          try clear hcz11_3
          try clear hcz11_4
          try clear hcz12_0
          try clear hcz12_1
          try clear hcz12_2
          try clear hcz12_3
          try clear hcz12_4
          try clear hcz14_0
          try clear hcz14_1
          try clear hcz14_2
          try clear hcz14_3
          try clear hcz14_4
          try clear hcz15_0
          try clear hcz15_1
          try clear hcz15_2
          try clear hcz15_3
          try clear hcz15_4
          try clear hcz17_0
          try clear hcz17_1
          try clear hcz17_2
          try clear hcz17_3
          try clear hcz17_4
          try clear hcz18_0
          try clear hcz18_1
          try clear hcz18_2
          try clear hcz18_3
          try clear hcz18_4
          try clear hcz20_0
          try clear hcz20_1
          try clear hcz20_2
          try clear hcz20_3
          try clear hcz20_4
          try clear hcz21_0
          try clear hcz21_1
          try clear hcz21_2
          try clear hcz21_3
          try clear hcz21_4
          try clear hcz23_0
          try clear hcz23_1
          try clear hcz23_2
          try clear hcz23_3
          try clear hcz23_4
          try clear hcz24_0
          try clear hcz24_1
          try clear hcz24_2
          try clear hcz24_3
          try clear hcz24_4
          try clear hfz11_0
          try clear hfz11_1
          try clear hfz11_2
          try clear hfz11_3
          try clear hfz11_4
          try clear hfz12_0
          try clear hfz12_1
          try clear hfz12_2
          try clear hfz12_3
          try clear hfz12_4
          try clear hfz14_0
          try clear hfz14_1
          try clear hfz14_2
          try clear hfz14_3
          try clear hfz14_4
          try clear hfz15_0
          try clear hfz15_1
          try clear hfz15_2
          try clear hfz15_3
          try clear hfz15_4
          try clear hfz17_0
          try clear hfz17_1
          try clear hfz17_2
          try clear hfz17_3
          try clear hfz17_4
          try clear hfz18_0
          try clear hfz18_1
          try clear hfz18_2
          try clear hfz18_3
          try clear hfz18_4
          try clear hfz20_0
          try clear hfz20_1
          try clear hfz20_2
          try clear hfz20_3
          try clear hfz20_4
          try clear hfz21_0
          try clear hfz21_1
          try clear hfz21_2
          try clear hfz21_3
          try clear hfz21_4
          try clear hfz23_0
          try clear hfz23_1
          try clear hfz23_2
          try clear hfz23_3
          try clear hfz23_4
          try clear hfz24_0
          try clear hfz24_1
          try clear hfz24_2
          try clear hfz24_3
          try clear hfz24_4
          try clear p2
          obtain ⟨x5_2, rfl, HA, HK2, BK154, BK155, HB⟩ := hrel
          cases gk with
          | zero => exact absurd HA.out (by simp [posternlaw04_alike.l0])
          | succ k2 =>
            have H := HA.out
            clear HA
            simp only [posternlaw04_alike.l0] at H
            by_cases c26 : x5_2 < (l0_3.length : Int)
            · rw [if_pos c26] at H
              have c26b0 : decide (x5_2 < (l0_3.length : Int)) = true := decide_eq_true c26
              clear c26
              by_cases c27 : 0 ≤ x5_2
              · rw [if_pos c27] at H
                have c27b0 : decide (0 ≤ x5_2) = true := decide_eq_true c27
                clear c27
                by_cases c28 : x5_2 < (l1_3.length : Int)
                · rw [if_pos c28] at H
                  have c28b0 : decide (x5_2 < (l1_3.length : Int)) = true := decide_eq_true c28
                  clear c28
                  replace H := Option.bind_eq_some_iff.mp H
                  obtain ⟨t158, A290, H⟩ := H
                  replace H : (if t158 = true then (posternlaw04_alike.l0 k2 (wrap64 (x5_2 + 1)) a0_0 a0_1 a0_2 l0_3 a0_4 a1_0 a1_1 a1_2 l1_3 a1_4) else (some false)) = some r := H
                  have A29 := Aside0.mk A290
                  clear A290
                  by_cases c30 : t158 = true
                  · subst c30
                    have H1 : (posternlaw04_alike.l0 k2 (wrap64 (x5_2 + 1)) a0_0 a0_1 a0_2 l0_3 a0_4 a1_0 a1_1 a1_2 l1_3 a1_4) = some r := by rw [if_pos rfl] at H; exact H
                    clear H
                    have H := H1
                    clear H1
                    have H' := Aside0.mk H
                    clear H
                    have hnb31 := NB154_155.out
                    have hnc31 := NB155_154.out
                    have hcz32_0 : wr.cell? ⟨gb154, 0, none⟩ = some (.int .u8 a0_0) := (blk_cell BK154.out 0).trans rfl
                    have hcz32_1 : wr.cell? ⟨gb154, 1, none⟩ = some (.int .i64 a0_1) := (blk_cell BK154.out 1).trans rfl
                    have hcz32_2 : wr.cell? ⟨gb154, 2, none⟩ = some (.string a0_2) := (blk_cell BK154.out 2).trans rfl
                    have hcz32_3 : wr.cell? ⟨gb154, 3, none⟩ = some (.slice A0_3 l0_3.length c0_3) := (blk_cell BK154.out 3).trans rfl
                    have hcz32_4 : wr.cell? ⟨gb154, 4, none⟩ = some (.int .i64 a0_4) := (blk_cell BK154.out 4).trans rfl
                    have hfz32_0 := blk_frozen BK154.out 0
                    have hfz32_1 := blk_frozen BK154.out 1
                    have hfz32_2 := blk_frozen BK154.out 2
                    have hfz32_3 := blk_frozen BK154.out 3
                    have hfz32_4 := blk_frozen BK154.out 4
                    try go_wp2
                    have n0_ := Aside0.mk (blk_drew BK154.out)
                    have n1_ := Aside0.mk (blk_drew BK155.out)
                    have n2_ := Aside0.mk (below_drew1 HB.out)
                    clear BK154
                    clear BK155
                    clear HB
                    have BK154 := n0_
                    have BK155 := n1_
                    have HB := n2_
                    clear n0_ n1_ n2_
                    have p156 : 0 ≤ (x5_2 : Int) := of_decide_eq_true (by first | (with_reducible assumption) | assumption)
                    have q156 : x5_2 < (l0_3.length : Int) := of_decide_eq_true (by first | (with_reducible assumption) | assumption)
                    obtain ⟨ad156, A156_3, c156_3, e156, hx156_0, hx156_1, hx156_2, hx156_3, hx156_4, hl156_3, hi156_3⟩ := at_T27 HR0_3.out x5_2 p156 q156
                    have hw156_4 := hx156_4
                    have hw156_3 := hx156_3
                    have hw156_2 := hx156_2
                    have hw156_1 := hx156_1
                    have hw156_0 := hx156_0
                    cases e156
                    replace hx156_0 := (HB.out.cell (World.block_lt_of_cell? w _ hx156_0)).trans hx156_0
                    replace hx156_1 := (HB.out.cell (World.block_lt_of_cell? w _ hx156_1)).trans hx156_1
                    replace hx156_2 := (HB.out.cell (World.block_lt_of_cell? w _ hx156_2)).trans hx156_2
                    replace hx156_3 := (HB.out.cell (World.block_lt_of_cell? w _ hx156_3)).trans hx156_3
                    replace hx156_4 := (HB.out.cell (World.block_lt_of_cell? w _ hx156_4)).trans hx156_4
                    have HR156_3 := Aside0.mk hi156_3
                    have HC156_3 := Aside0.mk hl156_3
                    clear hi156_3 hl156_3
                    replace p156 := eq_true p156
                    replace q156 := eq_true q156
                    have p157 : 0 ≤ (x5_2 : Int) := of_decide_eq_true (by first | (with_reducible assumption) | assumption)
                    have q157 : x5_2 < (l1_3.length : Int) := of_decide_eq_true (by first | (with_reducible assumption) | assumption)
                    obtain ⟨ad157, A157_3, c157_3, e157, hx157_0, hx157_1, hx157_2, hx157_3, hx157_4, hl157_3, hi157_3⟩ := at_T27 HR1_3.out x5_2 p157 q157
                    have hw157_4 := hx157_4
                    have hw157_3 := hx157_3
                    have hw157_2 := hx157_2
                    have hw157_1 := hx157_1
                    have hw157_0 := hx157_0
                    cases e157
                    replace hx157_0 := (HB.out.cell (World.block_lt_of_cell? w _ hx157_0)).trans hx157_0
                    replace hx157_1 := (HB.out.cell (World.block_lt_of_cell? w _ hx157_1)).trans hx157_1
                    replace hx157_2 := (HB.out.cell (World.block_lt_of_cell? w _ hx157_2)).trans hx157_2
                    replace hx157_3 := (HB.out.cell (World.block_lt_of_cell? w _ hx157_3)).trans hx157_3
                    replace hx157_4 := (HB.out.cell (World.block_lt_of_cell? w _ hx157_4)).trans hx157_4
                    have HR157_3 := Aside0.mk hi157_3
                    have HC157_3 := Aside0.mk hl157_3
                    clear hi157_3 hl157_3
                    replace p157 := eq_true p157
                    replace q157 := eq_true q157
                    refine start_ (n := 12) (S := fun w' => w'.cell? ⟨gb154, 0, none⟩ = some (.int .u8 a0_0) ∧ w'.cell? ⟨gb154, 1, none⟩ = some (.int .i64 a0_1) ∧ w'.cell? ⟨gb154, 2, none⟩ = some (.string a0_2) ∧ w'.cell? ⟨gb154, 3, none⟩ = some (.slice (some ad156) l0_3.length c0_3) ∧ w'.cell? ⟨gb154, 4, none⟩ = some (.int .i64 a0_4) ∧ w'.cell? ⟨gb155, 0, none⟩ = some (.int .u8 a1_0) ∧ w'.cell? ⟨gb155, 1, none⟩ = some (.int .i64 a1_1) ∧ w'.cell? ⟨gb155, 2, none⟩ = some (.string a1_2) ∧ w'.cell? ⟨gb155, 3, none⟩ = some (.slice (some ad157) l1_3.length c1_3) ∧ w'.cell? ⟨gb155, 4, none⟩ = some (.int .i64 a1_4) ∧ w'.cell? (ad156.add ((x5_2).toNat * 5)) = some (.int .u8 ((rd_T27 l0_3 x5_2).f0)) ∧ w'.cell? ⟨(ad156.add ((x5_2).toNat * 5)).block, (ad156.add ((x5_2).toNat * 5)).off + 1, none⟩ = some (.int .i64 ((rd_T27 l0_3 x5_2).f1)) ∧ w'.cell? ⟨(ad156.add ((x5_2).toNat * 5)).block, (ad156.add ((x5_2).toNat * 5)).off + 2, none⟩ = some (.string ((rd_T27 l0_3 x5_2).f2)) ∧ w'.cell? ⟨(ad156.add ((x5_2).toNat * 5)).block, (ad156.add ((x5_2).toNat * 5)).off + 3, none⟩ = some (.slice A156_3 ((rd_T27 l0_3 x5_2).f3).length c156_3) ∧ w'.cell? ⟨(ad156.add ((x5_2).toNat * 5)).block, (ad156.add ((x5_2).toNat * 5)).off + 4, none⟩ = some (.int .i64 ((rd_T27 l0_3 x5_2).f4)) ∧ w'.cell? (ad157.add ((x5_2).toNat * 5)) = some (.int .u8 ((rd_T27 l1_3 x5_2).f0)) ∧ w'.cell? ⟨(ad157.add ((x5_2).toNat * 5)).block, (ad157.add ((x5_2).toNat * 5)).off + 1, none⟩ = some (.int .i64 ((rd_T27 l1_3 x5_2).f1)) ∧ w'.cell? ⟨(ad157.add ((x5_2).toNat * 5)).block, (ad157.add ((x5_2).toNat * 5)).off + 2, none⟩ = some (.string ((rd_T27 l1_3 x5_2).f2)) ∧ w'.cell? ⟨(ad157.add ((x5_2).toNat * 5)).block, (ad157.add ((x5_2).toNat * 5)).off + 3, none⟩ = some (.slice A157_3 ((rd_T27 l1_3 x5_2).f3).length c157_3) ∧ w'.cell? ⟨(ad157.add ((x5_2).toNat * 5)).block, (ad157.add ((x5_2).toNat * 5)).off + 4, none⟩ = some (.int .i64 ((rd_T27 l1_3 x5_2).f4))) (ds := []) #[false, false, false, false, false, false, false, false, false, false, false, false] (by kernel_rfl) rfl rfl ⟨(blk_cell BK154.out 0).trans rfl, (blk_cell BK154.out 1).trans rfl, (blk_cell BK154.out 2).trans rfl, (blk_cell BK154.out 3).trans rfl, (blk_cell BK154.out 4).trans rfl, (blk_cell BK155.out 0).trans rfl, (blk_cell BK155.out 1).trans rfl, (blk_cell BK155.out 2).trans rfl, (blk_cell BK155.out 3).trans rfl, (blk_cell BK155.out 4).trans rfl, ((HB.out.cell (World.block_lt_of_cell? w _ hw156_0)).trans hw156_0), ((HB.out.cell (World.block_lt_of_cell? w _ hw156_1)).trans hw156_1), ((HB.out.cell (World.block_lt_of_cell? w _ hw156_2)).trans hw156_2), ((HB.out.cell (World.block_lt_of_cell? w _ hw156_3)).trans hw156_3), ((HB.out.cell (World.block_lt_of_cell? w _ hw156_4)).trans hw156_4), ((HB.out.cell (World.block_lt_of_cell? w _ hw157_0)).trans hw157_0), ((HB.out.cell (World.block_lt_of_cell? w _ hw157_1)).trans hw157_1), ((HB.out.cell (World.block_lt_of_cell? w _ hw157_2)).trans hw157_2), ((HB.out.cell (World.block_lt_of_cell? w _ hw157_3)).trans hw157_3), ((HB.out.cell (World.block_lt_of_cell? w _ hw157_4)).trans hw157_4)⟩ (fun hHeld => ?_); refine with_tabW posternlaw04_alike.tab6 posternlaw04_alike.bits6 (fun HT_ HW_ => ?_)
                    generalize wr.drew = w33 at BK154 BK155 HB HR156_3 HR157_3 hx156_0 hx156_1 hx156_2 hx156_3 hx156_4 hx157_0 hx157_1 hx157_2 hx157_3 hx157_4 hHeld ⊢
                    refine pure_ (i := 0) (N := some 48) (v := ?_) (a' := ?_) #[true, false, false, false, false, false, false, false, false, false, false, false] rfl rfl (any_of HT_.out (by kernel_rfl)) (fun _ _ _ h => h) (Or.inl ⟨by rfl, ?_⟩) ?_ ?_
                    rotate_left
                    · intro w'
                      go_simp
                      with_reducible rfl
                    rotate_left
                    · simp only [Act.put, List.setIfInBounds_toArray, List.set_cons_zero, List.set_cons_succ, i64_w, i32_w]
                      rfl
                    refine pure_ (i := 2) (N := some 50) (v := ?_) (a' := ?_) #[true, false, true, false, false, false, false, false, false, false, false, false] rfl rfl (any_of HT_.out (by kernel_rfl)) (fun _ _ _ h => h) (Or.inl ⟨by rfl, ?_⟩) ?_ ?_
                    rotate_left
                    · intro w'
                      go_simp
                      with_reducible rfl
                    rotate_left
                    · simp only [Act.put, List.setIfInBounds_toArray, List.set_cons_zero, List.set_cons_succ, i64_w, i32_w]
                      rfl
                    refine pure_ (i := 5) (N := some 53) (v := ?_) (a' := ?_) #[true, false, true, false, false, true, false, false, false, false, false, false] rfl rfl (any_of HT_.out (by kernel_rfl)) (fun _ _ _ h => h) (Or.inl ⟨by rfl, ?_⟩) ?_ ?_
                    rotate_left
                    · intro w'
                      go_simp
                      with_reducible rfl
                    rotate_left
                    · simp only [Act.put, List.setIfInBounds_toArray, List.set_cons_zero, List.set_cons_succ, i64_w, i32_w]
                      rfl
                    refine pure_ (i := 7) (N := some 55) (v := ?_) (a' := ?_) #[true, false, true, false, false, true, false, true, false, false, false, false] rfl rfl (any_of HT_.out (by kernel_rfl)) (fun _ _ _ h => h) (Or.inl ⟨by rfl, ?_⟩) ?_ ?_
                    rotate_left
                    · intro w'
                      go_simp
                      with_reducible rfl
                    rotate_left
                    · simp only [Act.put, List.setIfInBounds_toArray, List.set_cons_zero, List.set_cons_succ, i64_w, i32_w]
                      rfl
                    refine take_ (i := 1) (N := some 49) (v := ?_) (a' := ?_) #[true, true, true, false, false, true, false, true, false, false, false, false] rfl rfl (take_ofW HT_.out HW_.out (by kernel_rfl)) (fun _ _ _ h => h) (Or.inl ⟨by rfl, ?_⟩) hHeld ?_ ?_
                    rotate_left
                    · rintro w' ⟨s0, s1, s2, s3, s4, s5, s6, s7, s8, s9, s10, s11, s12, s13, s14, s15, s16, s17, s18, s19⟩
                      go_simp
                      with_reducible rfl
                    rotate_left
                    · simp only [Act.put, List.setIfInBounds_toArray, List.set_cons_zero, List.set_cons_succ, i64_w, i32_w]
                      rfl
                    refine pure_ (i := 3) (N := some 51) (v := ?_) (a' := ?_) #[true, true, true, true, false, true, false, true, false, false, false, false] rfl rfl (any_of HT_.out (by kernel_rfl)) (fun _ _ _ h => h) (Or.inl ⟨by rfl, ?_⟩) ?_ ?_
                    rotate_left
                    · intro w'
                      go_simp
                      with_reducible rfl
                    rotate_left
                    · simp only [Act.put, List.setIfInBounds_toArray, List.set_cons_zero, List.set_cons_succ, i64_w, i32_w]
                      rfl
                    refine take_ (i := 4) (N := some 52) (v := ?_) (a' := ?_) #[true, true, true, true, true, true, false, true, false, false, false, false] rfl rfl (take_ofW HT_.out HW_.out (by kernel_rfl)) (fun _ _ _ h => h) (Or.inl ⟨by rfl, ?_⟩) hHeld ?_ ?_
                    rotate_left
                    · rintro w' ⟨s0, s1, s2, s3, s4, s5, s6, s7, s8, s9, s10, s11, s12, s13, s14, s15, s16, s17, s18, s19⟩
                      go_simp
                      with_reducible rfl
                    rotate_left
                    · simp only [Act.put, List.setIfInBounds_toArray, List.set_cons_zero, List.set_cons_succ, i64_w, i32_w]
                      rfl
                    refine take_ (i := 6) (N := some 54) (v := ?_) (a' := ?_) #[true, true, true, true, true, true, true, true, false, false, false, false] rfl rfl (take_ofW HT_.out HW_.out (by kernel_rfl)) (fun _ _ _ h => h) (Or.inl ⟨by rfl, ?_⟩) hHeld ?_ ?_
                    rotate_left
                    · rintro w' ⟨s0, s1, s2, s3, s4, s5, s6, s7, s8, s9, s10, s11, s12, s13, s14, s15, s16, s17, s18, s19⟩
                      go_simp
                      with_reducible rfl
                    rotate_left
                    · simp only [Act.put, List.setIfInBounds_toArray, List.set_cons_zero, List.set_cons_succ, i64_w, i32_w]
                      rfl
                    refine pure_ (i := 8) (N := some 56) (v := ?_) (a' := ?_) #[true, true, true, true, true, true, true, true, true, false, false, false] rfl rfl (any_of HT_.out (by kernel_rfl)) (fun _ _ _ h => h) (Or.inl ⟨by rfl, ?_⟩) ?_ ?_
                    rotate_left
                    · intro w'
                      go_simp
                      with_reducible rfl
                    rotate_left
                    · simp only [Act.put, List.setIfInBounds_toArray, List.set_cons_zero, List.set_cons_succ, i64_w, i32_w]
                      rfl
                    refine take_ (i := 9) (N := some 57) (v := ?_) (a' := ?_) #[true, true, true, true, true, true, true, true, true, true, false, false] rfl rfl (take_ofW HT_.out HW_.out (by kernel_rfl)) (fun _ _ _ h => h) (Or.inl ⟨by rfl, ?_⟩) hHeld ?_ ?_
                    rotate_left
                    · rintro w' ⟨s0, s1, s2, s3, s4, s5, s6, s7, s8, s9, s10, s11, s12, s13, s14, s15, s16, s17, s18, s19⟩
                      go_simp
                      with_reducible rfl
                    rotate_left
                    · simp only [Act.put, List.setIfInBounds_toArray, List.set_cons_zero, List.set_cons_succ, i64_w, i32_w]
                      rfl
                    refine one_ (i := 10) (N := some 58) #[true, true, true, true, true, true, true, true, true, true, true, false] rfl rfl (one_of HT_.out (by kernel_rfl)) (by decide) (fun K hK => ?_)
                    refine goes_ Try.func16 (by kernel_rfl) rfl #[.agg #[.int .u8 ((rd_T27 l0_3 x5_2).f0), .int .i64 ((rd_T27 l0_3 x5_2).f1), .string ((rd_T27 l0_3 x5_2).f2), .slice A156_3 ((rd_T27 l0_3 x5_2).f3).length c156_3, .int .i64 ((rd_T27 l0_3 x5_2).f4)], .agg #[.int .u8 ((rd_T27 l1_3 x5_2).f0), .int .i64 ((rd_T27 l1_3 x5_2).f1), .string ((rd_T27 l1_3 x5_2).f2), .slice A157_3 ((rd_T27 l1_3 x5_2).f3).length c157_3, .int .i64 ((rd_T27 l1_3 x5_2).f4)]] (by rfl) rfl rfl (by (try simp only [List.map_toArray, List.map_cons, List.map_nil]); first | done | rfl | (simp only [List.length_drop, List.length_take]; rfl)) ?_
                    with_reducible refine (ih k2 (by have := HJ2.out; have := HK2.out; omega) ((rd_T27 l0_3 x5_2).f0) ((rd_T27 l0_3 x5_2).f1) ((rd_T27 l0_3 x5_2).f2) _ _ ((rd_T27 l0_3 x5_2).f3) ((rd_T27 l0_3 x5_2).f4) ((rd_T27 l1_3 x5_2).f0) ((rd_T27 l1_3 x5_2).f1) ((rd_T27 l1_3 x5_2).f2) _ _ ((rd_T27 l1_3 x5_2).f3) ((rd_T27 l1_3 x5_2).f4) true _ ?side1 ?side2 ?side3 ?side4 A29.out).mono ?_
                    (case side1 => repeat (first | exact (Kd.C_below HR156_3.out HB.out) | (with_reducible refine Kd.C_alloc ?_ _) | (with_reducible refine Kd.C_drewN ?_ _) | (with_reducible refine Kd.C_drew ?_)))
                    (case side2 => exact HC156_3.out)
                    (case side3 => repeat (first | exact (Kd.C_below HR157_3.out HB.out) | (with_reducible refine Kd.C_alloc ?_ _) | (with_reducible refine Kd.C_drewN ?_ _) | (with_reducible refine Kd.C_drew ?_)))
                    (case side4 => exact HC157_3.out)
                    rintro e w34 ⟨rfl, hb⟩
                    refine ⟨_, rfl, ?_⟩
                    have n0_ := Aside0.mk (blk_below (g := gb154) (o := .cells #[.int .u8 a0_0, .int .i64 a0_1, .string a0_2, .slice (some ad156) l0_3.length c0_3, .int .i64 a0_4] 27 (0, 0)) (by (with_reducible repeat (first | refine blk_drewN ?_ _ | refine blk_drew ?_ | refine blk_alloc ?_ _)); exact BK154.out) hb)
                    have n1_ := Aside0.mk (blk_below (g := gb155) (o := .cells #[.int .u8 a1_0, .int .i64 a1_1, .string a1_2, .slice (some ad157) l1_3.length c1_3, .int .i64 a1_4] 27 (0, 0)) (by (with_reducible repeat (first | refine blk_drewN ?_ _ | refine blk_drew ?_ | refine blk_alloc ?_ _)); exact BK155.out) hb)
                    have n2_ := Aside0.mk (below_step (by repeat (first | (with_reducible first | exact HB.out | apply below_alloc | apply pw_below_drewN | apply below_drew1 | refine below_set ?_ GE154.out | refine below_set ?_ GE155.out) | exact HB.out)) hb)
                    clear BK154
                    clear BK155
                    clear HB
                    have BK154 := n0_
                    have BK155 := n1_
                    have HB := n2_
                    clear n0_ n1_ n2_
                    (try clear hb)
                    (try clear hb2)
                    (try clear hk)
                    (try clear hi)
                    refine hK.out _ _ ⟨(blk_cell BK154.out 0).trans rfl, (blk_cell BK154.out 1).trans rfl, (blk_cell BK154.out 2).trans rfl, (blk_cell BK154.out 3).trans rfl, (blk_cell BK154.out 4).trans rfl, (blk_cell BK155.out 0).trans rfl, (blk_cell BK155.out 1).trans rfl, (blk_cell BK155.out 2).trans rfl, (blk_cell BK155.out 3).trans rfl, (blk_cell BK155.out 4).trans rfl, ((HB.out.cell (World.block_lt_of_cell? w _ hw156_0)).trans hw156_0), ((HB.out.cell (World.block_lt_of_cell? w _ hw156_1)).trans hw156_1), ((HB.out.cell (World.block_lt_of_cell? w _ hw156_2)).trans hw156_2), ((HB.out.cell (World.block_lt_of_cell? w _ hw156_3)).trans hw156_3), ((HB.out.cell (World.block_lt_of_cell? w _ hw156_4)).trans hw156_4), ((HB.out.cell (World.block_lt_of_cell? w _ hw157_0)).trans hw157_0), ((HB.out.cell (World.block_lt_of_cell? w _ hw157_1)).trans hw157_1), ((HB.out.cell (World.block_lt_of_cell? w _ hw157_2)).trans hw157_2), ((HB.out.cell (World.block_lt_of_cell? w _ hw157_3)).trans hw157_3), ((HB.out.cell (World.block_lt_of_cell? w _ hw157_4)).trans hw157_4)⟩ (fun hHeld => ?_)
                    clear hK K
                    refine norm_ (a' := ?_) ?_ ?_
                    rotate_left
                    · show Act.put _ (some 58) _ = _
                      simp only [Act.put, List.setIfInBounds_toArray, List.set_cons_zero, List.set_cons_succ, i64_w, i32_w]
                      rfl
                    refine pure_ (i := 11) (N := some 59) (v := ?_) (a' := ?_) #[true, true, true, true, true, true, true, true, true, true, true, true] rfl rfl (any_of HT_.out (by kernel_rfl)) (fun _ _ _ h => h) (Or.inl ⟨by rfl, ?_⟩) ?_ ?_
                    rotate_left
                    · intro w'
                      go_simp
                      with_reducible rfl
                    rotate_left
                    · simp only [Act.put, List.setIfInBounds_toArray, List.set_cons_zero, List.set_cons_succ, i64_w, i32_w]
                      rfl
                    refine done_ (done_of HT_.out (by kernel_rfl)) ?_
                    try go_wp2
                    go_roundg k2
                    case measure => have := HJ2.out; have := HK2.out; omega
                    case rel => exact ⟨(wrap64 (x5_2 + 1)), (by first | rfl | (simp; done) | (simp [*]; done)), H', ⟨by have := HJ2.out; have := HK2.out; omega⟩, ⟨by (with_reducible repeat (first | refine blk_drewN ?_ _ | refine blk_drew ?_ | refine blk_alloc ?_ _)); exact BK154.out⟩, ⟨by (with_reducible repeat (first | refine blk_drewN ?_ _ | refine blk_drew ?_ | refine blk_alloc ?_ _)); exact BK155.out⟩, ⟨by repeat (first | (with_reducible first | exact HB.out | apply below_alloc | apply pw_below_drewN | apply below_drew1 | refine below_set ?_ GE154.out | refine below_set ?_ GE155.out) | exact HB.out)⟩⟩
                  · replace c30 := Bool.eq_false_iff.mpr c30
                    subst c30
                    have H1 : (some false) = some r := by rw [if_neg (show ¬ (false = true) by decide)] at H; exact H
                    clear H
                    have H := H1
                    clear H1
                    obtain rfl := Option.some.inj H
                    have hnb35 := NB154_155.out
                    have hnc35 := NB155_154.out
                    have hcz36_0 : wr.cell? ⟨gb154, 0, none⟩ = some (.int .u8 a0_0) := (blk_cell BK154.out 0).trans rfl
                    have hcz36_1 : wr.cell? ⟨gb154, 1, none⟩ = some (.int .i64 a0_1) := (blk_cell BK154.out 1).trans rfl
                    have hcz36_2 : wr.cell? ⟨gb154, 2, none⟩ = some (.string a0_2) := (blk_cell BK154.out 2).trans rfl
                    have hcz36_3 : wr.cell? ⟨gb154, 3, none⟩ = some (.slice A0_3 l0_3.length c0_3) := (blk_cell BK154.out 3).trans rfl
                    have hcz36_4 : wr.cell? ⟨gb154, 4, none⟩ = some (.int .i64 a0_4) := (blk_cell BK154.out 4).trans rfl
                    have hfz36_0 := blk_frozen BK154.out 0
                    have hfz36_1 := blk_frozen BK154.out 1
                    have hfz36_2 := blk_frozen BK154.out 2
                    have hfz36_3 := blk_frozen BK154.out 3
                    have hfz36_4 := blk_frozen BK154.out 4
                    try go_wp2
                    have n0_ := Aside0.mk (blk_drew BK154.out)
                    have n1_ := Aside0.mk (blk_drew BK155.out)
                    have n2_ := Aside0.mk (below_drew1 HB.out)
                    clear BK154
                    clear BK155
                    clear HB
                    have BK154 := n0_
                    have BK155 := n1_
                    have HB := n2_
                    clear n0_ n1_ n2_
                    have p156 : 0 ≤ (x5_2 : Int) := of_decide_eq_true (by first | (with_reducible assumption) | assumption)
                    have q156 : x5_2 < (l0_3.length : Int) := of_decide_eq_true (by first | (with_reducible assumption) | assumption)
                    obtain ⟨ad156, A156_3, c156_3, e156, hx156_0, hx156_1, hx156_2, hx156_3, hx156_4, hl156_3, hi156_3⟩ := at_T27 HR0_3.out x5_2 p156 q156
                    have hw156_4 := hx156_4
                    have hw156_3 := hx156_3
                    have hw156_2 := hx156_2
                    have hw156_1 := hx156_1
                    have hw156_0 := hx156_0
                    cases e156
                    replace hx156_0 := (HB.out.cell (World.block_lt_of_cell? w _ hx156_0)).trans hx156_0
                    replace hx156_1 := (HB.out.cell (World.block_lt_of_cell? w _ hx156_1)).trans hx156_1
                    replace hx156_2 := (HB.out.cell (World.block_lt_of_cell? w _ hx156_2)).trans hx156_2
                    replace hx156_3 := (HB.out.cell (World.block_lt_of_cell? w _ hx156_3)).trans hx156_3
                    replace hx156_4 := (HB.out.cell (World.block_lt_of_cell? w _ hx156_4)).trans hx156_4
                    have HR156_3 := Aside0.mk hi156_3
                    have HC156_3 := Aside0.mk hl156_3
                    clear hi156_3 hl156_3
                    replace p156 := eq_true p156
                    replace q156 := eq_true q156
                    have p157 : 0 ≤ (x5_2 : Int) := of_decide_eq_true (by first | (with_reducible assumption) | assumption)
                    have q157 : x5_2 < (l1_3.length : Int) := of_decide_eq_true (by first | (with_reducible assumption) | assumption)
                    obtain ⟨ad157, A157_3, c157_3, e157, hx157_0, hx157_1, hx157_2, hx157_3, hx157_4, hl157_3, hi157_3⟩ := at_T27 HR1_3.out x5_2 p157 q157
                    have hw157_4 := hx157_4
                    have hw157_3 := hx157_3
                    have hw157_2 := hx157_2
                    have hw157_1 := hx157_1
                    have hw157_0 := hx157_0
                    cases e157
                    replace hx157_0 := (HB.out.cell (World.block_lt_of_cell? w _ hx157_0)).trans hx157_0
                    replace hx157_1 := (HB.out.cell (World.block_lt_of_cell? w _ hx157_1)).trans hx157_1
                    replace hx157_2 := (HB.out.cell (World.block_lt_of_cell? w _ hx157_2)).trans hx157_2
                    replace hx157_3 := (HB.out.cell (World.block_lt_of_cell? w _ hx157_3)).trans hx157_3
                    replace hx157_4 := (HB.out.cell (World.block_lt_of_cell? w _ hx157_4)).trans hx157_4
                    have HR157_3 := Aside0.mk hi157_3
                    have HC157_3 := Aside0.mk hl157_3
                    clear hi157_3 hl157_3
                    replace p157 := eq_true p157
                    replace q157 := eq_true q157
                    refine start_ (n := 12) (S := fun w' => w'.cell? ⟨gb154, 0, none⟩ = some (.int .u8 a0_0) ∧ w'.cell? ⟨gb154, 1, none⟩ = some (.int .i64 a0_1) ∧ w'.cell? ⟨gb154, 2, none⟩ = some (.string a0_2) ∧ w'.cell? ⟨gb154, 3, none⟩ = some (.slice (some ad156) l0_3.length c0_3) ∧ w'.cell? ⟨gb154, 4, none⟩ = some (.int .i64 a0_4) ∧ w'.cell? ⟨gb155, 0, none⟩ = some (.int .u8 a1_0) ∧ w'.cell? ⟨gb155, 1, none⟩ = some (.int .i64 a1_1) ∧ w'.cell? ⟨gb155, 2, none⟩ = some (.string a1_2) ∧ w'.cell? ⟨gb155, 3, none⟩ = some (.slice (some ad157) l1_3.length c1_3) ∧ w'.cell? ⟨gb155, 4, none⟩ = some (.int .i64 a1_4) ∧ w'.cell? (ad156.add ((x5_2).toNat * 5)) = some (.int .u8 ((rd_T27 l0_3 x5_2).f0)) ∧ w'.cell? ⟨(ad156.add ((x5_2).toNat * 5)).block, (ad156.add ((x5_2).toNat * 5)).off + 1, none⟩ = some (.int .i64 ((rd_T27 l0_3 x5_2).f1)) ∧ w'.cell? ⟨(ad156.add ((x5_2).toNat * 5)).block, (ad156.add ((x5_2).toNat * 5)).off + 2, none⟩ = some (.string ((rd_T27 l0_3 x5_2).f2)) ∧ w'.cell? ⟨(ad156.add ((x5_2).toNat * 5)).block, (ad156.add ((x5_2).toNat * 5)).off + 3, none⟩ = some (.slice A156_3 ((rd_T27 l0_3 x5_2).f3).length c156_3) ∧ w'.cell? ⟨(ad156.add ((x5_2).toNat * 5)).block, (ad156.add ((x5_2).toNat * 5)).off + 4, none⟩ = some (.int .i64 ((rd_T27 l0_3 x5_2).f4)) ∧ w'.cell? (ad157.add ((x5_2).toNat * 5)) = some (.int .u8 ((rd_T27 l1_3 x5_2).f0)) ∧ w'.cell? ⟨(ad157.add ((x5_2).toNat * 5)).block, (ad157.add ((x5_2).toNat * 5)).off + 1, none⟩ = some (.int .i64 ((rd_T27 l1_3 x5_2).f1)) ∧ w'.cell? ⟨(ad157.add ((x5_2).toNat * 5)).block, (ad157.add ((x5_2).toNat * 5)).off + 2, none⟩ = some (.string ((rd_T27 l1_3 x5_2).f2)) ∧ w'.cell? ⟨(ad157.add ((x5_2).toNat * 5)).block, (ad157.add ((x5_2).toNat * 5)).off + 3, none⟩ = some (.slice A157_3 ((rd_T27 l1_3 x5_2).f3).length c157_3) ∧ w'.cell? ⟨(ad157.add ((x5_2).toNat * 5)).block, (ad157.add ((x5_2).toNat * 5)).off + 4, none⟩ = some (.int .i64 ((rd_T27 l1_3 x5_2).f4))) (ds := []) #[false, false, false, false, false, false, false, false, false, false, false, false] (by kernel_rfl) rfl rfl ⟨(blk_cell BK154.out 0).trans rfl, (blk_cell BK154.out 1).trans rfl, (blk_cell BK154.out 2).trans rfl, (blk_cell BK154.out 3).trans rfl, (blk_cell BK154.out 4).trans rfl, (blk_cell BK155.out 0).trans rfl, (blk_cell BK155.out 1).trans rfl, (blk_cell BK155.out 2).trans rfl, (blk_cell BK155.out 3).trans rfl, (blk_cell BK155.out 4).trans rfl, ((HB.out.cell (World.block_lt_of_cell? w _ hw156_0)).trans hw156_0), ((HB.out.cell (World.block_lt_of_cell? w _ hw156_1)).trans hw156_1), ((HB.out.cell (World.block_lt_of_cell? w _ hw156_2)).trans hw156_2), ((HB.out.cell (World.block_lt_of_cell? w _ hw156_3)).trans hw156_3), ((HB.out.cell (World.block_lt_of_cell? w _ hw156_4)).trans hw156_4), ((HB.out.cell (World.block_lt_of_cell? w _ hw157_0)).trans hw157_0), ((HB.out.cell (World.block_lt_of_cell? w _ hw157_1)).trans hw157_1), ((HB.out.cell (World.block_lt_of_cell? w _ hw157_2)).trans hw157_2), ((HB.out.cell (World.block_lt_of_cell? w _ hw157_3)).trans hw157_3), ((HB.out.cell (World.block_lt_of_cell? w _ hw157_4)).trans hw157_4)⟩ (fun hHeld => ?_); refine with_tabW posternlaw04_alike.tab6 posternlaw04_alike.bits6 (fun HT_ HW_ => ?_)
                    generalize wr.drew = w37 at BK154 BK155 HB HR156_3 HR157_3 hx156_0 hx156_1 hx156_2 hx156_3 hx156_4 hx157_0 hx157_1 hx157_2 hx157_3 hx157_4 hHeld ⊢
                    refine pure_ (i := 0) (N := some 48) (v := ?_) (a' := ?_) #[true, false, false, false, false, false, false, false, false, false, false, false] rfl rfl (any_of HT_.out (by kernel_rfl)) (fun _ _ _ h => h) (Or.inl ⟨by rfl, ?_⟩) ?_ ?_
                    rotate_left
                    · intro w'
                      go_simp
                      with_reducible rfl
                    rotate_left
                    · simp only [Act.put, List.setIfInBounds_toArray, List.set_cons_zero, List.set_cons_succ, i64_w, i32_w]
                      rfl
                    refine pure_ (i := 2) (N := some 50) (v := ?_) (a' := ?_) #[true, false, true, false, false, false, false, false, false, false, false, false] rfl rfl (any_of HT_.out (by kernel_rfl)) (fun _ _ _ h => h) (Or.inl ⟨by rfl, ?_⟩) ?_ ?_
                    rotate_left
                    · intro w'
                      go_simp
                      with_reducible rfl
                    rotate_left
                    · simp only [Act.put, List.setIfInBounds_toArray, List.set_cons_zero, List.set_cons_succ, i64_w, i32_w]
                      rfl
                    refine pure_ (i := 5) (N := some 53) (v := ?_) (a' := ?_) #[true, false, true, false, false, true, false, false, false, false, false, false] rfl rfl (any_of HT_.out (by kernel_rfl)) (fun _ _ _ h => h) (Or.inl ⟨by rfl, ?_⟩) ?_ ?_
                    rotate_left
                    · intro w'
                      go_simp
                      with_reducible rfl
                    rotate_left
                    · simp only [Act.put, List.setIfInBounds_toArray, List.set_cons_zero, List.set_cons_succ, i64_w, i32_w]
                      rfl
                    refine pure_ (i := 7) (N := some 55) (v := ?_) (a' := ?_) #[true, false, true, false, false, true, false, true, false, false, false, false] rfl rfl (any_of HT_.out (by kernel_rfl)) (fun _ _ _ h => h) (Or.inl ⟨by rfl, ?_⟩) ?_ ?_
                    rotate_left
                    · intro w'
                      go_simp
                      with_reducible rfl
                    rotate_left
                    · simp only [Act.put, List.setIfInBounds_toArray, List.set_cons_zero, List.set_cons_succ, i64_w, i32_w]
                      rfl
                    refine take_ (i := 1) (N := some 49) (v := ?_) (a' := ?_) #[true, true, true, false, false, true, false, true, false, false, false, false] rfl rfl (take_ofW HT_.out HW_.out (by kernel_rfl)) (fun _ _ _ h => h) (Or.inl ⟨by rfl, ?_⟩) hHeld ?_ ?_
                    rotate_left
                    · rintro w' ⟨s0, s1, s2, s3, s4, s5, s6, s7, s8, s9, s10, s11, s12, s13, s14, s15, s16, s17, s18, s19⟩
                      go_simp
                      with_reducible rfl
                    rotate_left
                    · simp only [Act.put, List.setIfInBounds_toArray, List.set_cons_zero, List.set_cons_succ, i64_w, i32_w]
                      rfl
                    refine pure_ (i := 3) (N := some 51) (v := ?_) (a' := ?_) #[true, true, true, true, false, true, false, true, false, false, false, false] rfl rfl (any_of HT_.out (by kernel_rfl)) (fun _ _ _ h => h) (Or.inl ⟨by rfl, ?_⟩) ?_ ?_
                    rotate_left
                    · intro w'
                      go_simp
                      with_reducible rfl
                    rotate_left
                    · simp only [Act.put, List.setIfInBounds_toArray, List.set_cons_zero, List.set_cons_succ, i64_w, i32_w]
                      rfl
                    refine take_ (i := 4) (N := some 52) (v := ?_) (a' := ?_) #[true, true, true, true, true, true, false, true, false, false, false, false] rfl rfl (take_ofW HT_.out HW_.out (by kernel_rfl)) (fun _ _ _ h => h) (Or.inl ⟨by rfl, ?_⟩) hHeld ?_ ?_
                    rotate_left
                    · rintro w' ⟨s0, s1, s2, s3, s4, s5, s6, s7, s8, s9, s10, s11, s12, s13, s14, s15, s16, s17, s18, s19⟩
                      go_simp
                      with_reducible rfl
                    rotate_left
                    · simp only [Act.put, List.setIfInBounds_toArray, List.set_cons_zero, List.set_cons_succ, i64_w, i32_w]
                      rfl
                    refine take_ (i := 6) (N := some 54) (v := ?_) (a' := ?_) #[true, true, true, true, true, true, true, true, false, false, false, false] rfl rfl (take_ofW HT_.out HW_.out (by kernel_rfl)) (fun _ _ _ h => h) (Or.inl ⟨by rfl, ?_⟩) hHeld ?_ ?_
                    rotate_left
                    · rintro w' ⟨s0, s1, s2, s3, s4, s5, s6, s7, s8, s9, s10, s11, s12, s13, s14, s15, s16, s17, s18, s19⟩
                      go_simp
                      with_reducible rfl
                    rotate_left
                    · simp only [Act.put, List.setIfInBounds_toArray, List.set_cons_zero, List.set_cons_succ, i64_w, i32_w]
                      rfl
                    refine pure_ (i := 8) (N := some 56) (v := ?_) (a' := ?_) #[true, true, true, true, true, true, true, true, true, false, false, false] rfl rfl (any_of HT_.out (by kernel_rfl)) (fun _ _ _ h => h) (Or.inl ⟨by rfl, ?_⟩) ?_ ?_
                    rotate_left
                    · intro w'
                      go_simp
                      with_reducible rfl
                    rotate_left
                    · simp only [Act.put, List.setIfInBounds_toArray, List.set_cons_zero, List.set_cons_succ, i64_w, i32_w]
                      rfl
                    refine take_ (i := 9) (N := some 57) (v := ?_) (a' := ?_) #[true, true, true, true, true, true, true, true, true, true, false, false] rfl rfl (take_ofW HT_.out HW_.out (by kernel_rfl)) (fun _ _ _ h => h) (Or.inl ⟨by rfl, ?_⟩) hHeld ?_ ?_
                    rotate_left
                    · rintro w' ⟨s0, s1, s2, s3, s4, s5, s6, s7, s8, s9, s10, s11, s12, s13, s14, s15, s16, s17, s18, s19⟩
                      go_simp
                      with_reducible rfl
                    rotate_left
                    · simp only [Act.put, List.setIfInBounds_toArray, List.set_cons_zero, List.set_cons_succ, i64_w, i32_w]
                      rfl
                    refine one_ (i := 10) (N := some 58) #[true, true, true, true, true, true, true, true, true, true, true, false] rfl rfl (one_of HT_.out (by kernel_rfl)) (by decide) (fun K hK => ?_)
                    refine goes_ Try.func16 (by kernel_rfl) rfl #[.agg #[.int .u8 ((rd_T27 l0_3 x5_2).f0), .int .i64 ((rd_T27 l0_3 x5_2).f1), .string ((rd_T27 l0_3 x5_2).f2), .slice A156_3 ((rd_T27 l0_3 x5_2).f3).length c156_3, .int .i64 ((rd_T27 l0_3 x5_2).f4)], .agg #[.int .u8 ((rd_T27 l1_3 x5_2).f0), .int .i64 ((rd_T27 l1_3 x5_2).f1), .string ((rd_T27 l1_3 x5_2).f2), .slice A157_3 ((rd_T27 l1_3 x5_2).f3).length c157_3, .int .i64 ((rd_T27 l1_3 x5_2).f4)]] (by rfl) rfl rfl (by (try simp only [List.map_toArray, List.map_cons, List.map_nil]); first | done | rfl | (simp only [List.length_drop, List.length_take]; rfl)) ?_
                    with_reducible refine (ih k2 (by have := HJ2.out; have := HK2.out; omega) ((rd_T27 l0_3 x5_2).f0) ((rd_T27 l0_3 x5_2).f1) ((rd_T27 l0_3 x5_2).f2) _ _ ((rd_T27 l0_3 x5_2).f3) ((rd_T27 l0_3 x5_2).f4) ((rd_T27 l1_3 x5_2).f0) ((rd_T27 l1_3 x5_2).f1) ((rd_T27 l1_3 x5_2).f2) _ _ ((rd_T27 l1_3 x5_2).f3) ((rd_T27 l1_3 x5_2).f4) false _ ?side1 ?side2 ?side3 ?side4 A29.out).mono ?_
                    (case side1 => repeat (first | exact (Kd.C_below HR156_3.out HB.out) | (with_reducible refine Kd.C_alloc ?_ _) | (with_reducible refine Kd.C_drewN ?_ _) | (with_reducible refine Kd.C_drew ?_)))
                    (case side2 => exact HC156_3.out)
                    (case side3 => repeat (first | exact (Kd.C_below HR157_3.out HB.out) | (with_reducible refine Kd.C_alloc ?_ _) | (with_reducible refine Kd.C_drewN ?_ _) | (with_reducible refine Kd.C_drew ?_)))
                    (case side4 => exact HC157_3.out)
                    rintro e w38 ⟨rfl, hb⟩
                    refine ⟨_, rfl, ?_⟩
                    have n0_ := Aside0.mk (blk_below (g := gb154) (o := .cells #[.int .u8 a0_0, .int .i64 a0_1, .string a0_2, .slice (some ad156) l0_3.length c0_3, .int .i64 a0_4] 27 (0, 0)) (by (with_reducible repeat (first | refine blk_drewN ?_ _ | refine blk_drew ?_ | refine blk_alloc ?_ _)); exact BK154.out) hb)
                    have n1_ := Aside0.mk (blk_below (g := gb155) (o := .cells #[.int .u8 a1_0, .int .i64 a1_1, .string a1_2, .slice (some ad157) l1_3.length c1_3, .int .i64 a1_4] 27 (0, 0)) (by (with_reducible repeat (first | refine blk_drewN ?_ _ | refine blk_drew ?_ | refine blk_alloc ?_ _)); exact BK155.out) hb)
                    have n2_ := Aside0.mk (below_step (by repeat (first | (with_reducible first | exact HB.out | apply below_alloc | apply pw_below_drewN | apply below_drew1 | refine below_set ?_ GE154.out | refine below_set ?_ GE155.out) | exact HB.out)) hb)
                    clear BK154
                    clear BK155
                    clear HB
                    have BK154 := n0_
                    have BK155 := n1_
                    have HB := n2_
                    clear n0_ n1_ n2_
                    (try clear hb)
                    (try clear hb2)
                    (try clear hk)
                    (try clear hi)
                    refine hK.out _ _ ⟨(blk_cell BK154.out 0).trans rfl, (blk_cell BK154.out 1).trans rfl, (blk_cell BK154.out 2).trans rfl, (blk_cell BK154.out 3).trans rfl, (blk_cell BK154.out 4).trans rfl, (blk_cell BK155.out 0).trans rfl, (blk_cell BK155.out 1).trans rfl, (blk_cell BK155.out 2).trans rfl, (blk_cell BK155.out 3).trans rfl, (blk_cell BK155.out 4).trans rfl, ((HB.out.cell (World.block_lt_of_cell? w _ hw156_0)).trans hw156_0), ((HB.out.cell (World.block_lt_of_cell? w _ hw156_1)).trans hw156_1), ((HB.out.cell (World.block_lt_of_cell? w _ hw156_2)).trans hw156_2), ((HB.out.cell (World.block_lt_of_cell? w _ hw156_3)).trans hw156_3), ((HB.out.cell (World.block_lt_of_cell? w _ hw156_4)).trans hw156_4), ((HB.out.cell (World.block_lt_of_cell? w _ hw157_0)).trans hw157_0), ((HB.out.cell (World.block_lt_of_cell? w _ hw157_1)).trans hw157_1), ((HB.out.cell (World.block_lt_of_cell? w _ hw157_2)).trans hw157_2), ((HB.out.cell (World.block_lt_of_cell? w _ hw157_3)).trans hw157_3), ((HB.out.cell (World.block_lt_of_cell? w _ hw157_4)).trans hw157_4)⟩ (fun hHeld => ?_)
                    clear hK K
                    refine norm_ (a' := ?_) ?_ ?_
                    rotate_left
                    · show Act.put _ (some 58) _ = _
                      simp only [Act.put, List.setIfInBounds_toArray, List.set_cons_zero, List.set_cons_succ, i64_w, i32_w]
                      rfl
                    refine pure_ (i := 11) (N := some 59) (v := ?_) (a' := ?_) #[true, true, true, true, true, true, true, true, true, true, true, true] rfl rfl (any_of HT_.out (by kernel_rfl)) (fun _ _ _ h => h) (Or.inl ⟨by rfl, ?_⟩) ?_ ?_
                    rotate_left
                    · intro w'
                      go_simp
                      with_reducible rfl
                    rotate_left
                    · simp only [Act.put, List.setIfInBounds_toArray, List.set_cons_zero, List.set_cons_succ, i64_w, i32_w]
                      rfl
                    refine done_ (done_of HT_.out (by kernel_rfl)) ?_
                    try go_wp2
                    go_ret
                    exact ⟨by first | rfl | (simp [errW_none, errW_some] <;> rfl) | (simp [*, errW_none, errW_some] <;> rfl), by repeat (first | (with_reducible first | exact HB.out | apply below_alloc | apply pw_below_drewN | apply below_drew1 | refine below_set ?_ GE154.out | refine below_set ?_ GE155.out) | exact HB.out)⟩
                · rw [if_neg c28] at H
                  exact absurd H (by simp)
              · rw [if_neg c27] at H
                exact absurd H (by simp)
            · rw [if_neg c26] at H
              have c26b0 : decide (x5_2 < (l0_3.length : Int)) = false := decide_eq_false c26
              clear c26
              obtain rfl := Option.some.inj H
              have hnb39 := NB154_155.out
              have hnc39 := NB155_154.out
              have hcz40_0 : wr.cell? ⟨gb154, 0, none⟩ = some (.int .u8 a0_0) := (blk_cell BK154.out 0).trans rfl
              have hcz40_1 : wr.cell? ⟨gb154, 1, none⟩ = some (.int .i64 a0_1) := (blk_cell BK154.out 1).trans rfl
              have hcz40_2 : wr.cell? ⟨gb154, 2, none⟩ = some (.string a0_2) := (blk_cell BK154.out 2).trans rfl
              have hcz40_3 : wr.cell? ⟨gb154, 3, none⟩ = some (.slice A0_3 l0_3.length c0_3) := (blk_cell BK154.out 3).trans rfl
              have hcz40_4 : wr.cell? ⟨gb154, 4, none⟩ = some (.int .i64 a0_4) := (blk_cell BK154.out 4).trans rfl
              have hfz40_0 := blk_frozen BK154.out 0
              have hfz40_1 := blk_frozen BK154.out 1
              have hfz40_2 := blk_frozen BK154.out 2
              have hfz40_3 := blk_frozen BK154.out 3
              have hfz40_4 := blk_frozen BK154.out 4
              go_wp2
              go_ret
              exact ⟨by first | rfl | (simp [errW_none, errW_some] <;> rfl) | (simp [*, errW_none, errW_some] <;> rfl), by repeat (first | (with_reducible first | exact HB.out | apply below_alloc | apply pw_below_drewN | apply below_drew1 | refine below_set ?_ GE154.out | refine below_set ?_ GE155.out) | exact HB.out)⟩

end Go.Proofs.Ythkemcekcfccpaa.PBrandCompares
