/- Put of a table: where it answers an error. -/
import Derived.Test.YthkemcekcfccpaaBrandComparesT2
namespace Go.Proofs.Ythkemcekcfccpaa.PBrandCompares
open Go.RowKit Go.Proofs.YthkemcekcfccpaaW.PrintWords Go.Proofs.YthkemcekcfccpaaW.PrintLast Go.Proofs.YthkemcekcfccpaaW.PrintMore
open Go.Proofs.Ythkemcekcfccpaa.GBrandCompares
set_option linter.unusedVariables false
set_option linter.unusedSimpArgs false

abbrev PUT (x y : S27) (A B : Option Addr) (c d g : Nat) (w : World) (R : Ending → World → Prop) : Prop :=
  Calls Try.prog 15 #[.pointer (some ⟨g, 0, none⟩), .agg #[.int .u8 x.f0, .int .i64 x.f1, .string x.f2, .slice A x.f3.length c, .int .i64 x.f4], .agg #[.int .u8 y.f0, .int .i64 y.f1, .string y.f2, .slice B y.f3.length d, .int .i64 y.f4]] w R

/-- the value that is none -/
def zval : Value := .agg #[.int .u8 0, .int .i64 0, .string ⟨#[]⟩, .slice none 0 0, .int .i64 0]

set_option maxHeartbeats 400000 in
theorem put_arg1 (x y : S27) (A B : Option Addr) (c d g mb : Nat) (b3 b4 : Value) (w : World) (ok : Nat → Prop) (h : w.heap[g]? = some (.cells #[.map (some mb), b3, b4] 66 (0, 0))) (hF : Kd.F k27 w ok A x.f3.length x.f3) (hF2 : Kd.F k27 w ok B y.f3.length y.f3) (hm : mayV x = false) : PUT x y A B c d g w fun e w' => e = .returned (.tuple #[zval, .bool false, .int .i64 2]) ∧ Ex (fun _ => False) w w' := by
  have HG := Aside0.mk h
  have HF := Aside0.mk hF
  have HM := Aside0.mk hm
  clear h hF hm hF2
  unfold PUT
  go_enter Try.func15, Try.ntmps15
  go_wp2_with fail
  refine (none_no g mb b3 b4 _ (blk_alloc (blk_alloc (blk_alloc HG.out _) _) _)).mono ?_
  rintro e w1 ⟨rfl, rfl⟩
  go_wp2_with fail
  refine (may_calls x A c _ _ (Kd.F_alloc (Kd.F_alloc (Kd.F_alloc HF.out _) _) _)).mono ?_
  rintro e w1 ⟨rfl, hx1⟩
  have hm' := HM.out
  rw [hm']
  clear hm'
  have HG1 := Aside0.mk (hx1.blk (blk_alloc (blk_alloc (blk_alloc HG.out _) _) _) (fun h => h))
  have HK1 := Aside0.mk (hx1.blk (blk_alloc (blk_alloc (blk_new1 w _) _) _) (fun h => h))
  have HV1 := Aside0.mk (hx1.blk (blk_alloc (blk_new2 w _ _) _) (fun h => h))
  have HB1 := Aside0.mk (show w1.heap[w.heap.size + 1 + 1]? = some (.cells #[.int .u8 0, .int .i64 0, .string ⟨#[]⟩, .slice none 0 0, .int .i64 0] 27 (0, 0)) from hx1.blk (blk_new3 w _ _ _) (fun h => h))
  have HX1 := Aside0.mk (((((Ex.refl (fun _ => False) w).alloc _).alloc _).alloc _).trans hx1 (fun _ h => h.elim))
  clear hx1
  have bc0 := (blk_cell HB1.out 0).trans rfl
  have bc1 := (blk_cell HB1.out 1).trans rfl
  have bc2 := (blk_cell HB1.out 2).trans rfl
  have bc3 := (blk_cell HB1.out 3).trans rfl
  have bc4 := (blk_cell HB1.out 4).trans rfl
  have bf0 := blk_frozen HB1.out 0
  have bf1 := blk_frozen HB1.out 1
  have bf2 := blk_frozen HB1.out 2
  have bf3 := blk_frozen HB1.out 3
  have bf4 := blk_frozen HB1.out 4
  have bl := lt_of_blk HB1.out
  go_wp2_with fail
  refine bodyPost_ret (results_row_tmp2 rfl _ _ (w.heap.size + 1 + 1) 27 _ (0, 0) _ rfl (put27 HB1.out rfl _ _ _ _ _) Try.underlying27 rfl size27) rfl ?_
  exact ⟨rfl, ex_put27 HX1.out (.inr (by omega)) _ _ _ _ _⟩

set_option maxHeartbeats 400000 in
theorem put_arg2 (x y : S27) (A B : Option Addr) (c d g mb : Nat) (b3 b4 : Value) (w : World) (ok : Nat → Prop) (h : w.heap[g]? = some (.cells #[.map (some mb), b3, b4] 66 (0, 0))) (hF : Kd.F k27 w ok A x.f3.length x.f3) (hF2 : Kd.F k27 w ok B y.f3.length y.f3) (hm : mayV x = true) (hn : mayV y = false) : PUT x y A B c d g w fun e w' => e = .returned (.tuple #[zval, .bool false, .int .i64 2]) ∧ Ex (fun _ => False) w w' := by
  have HG := Aside0.mk h
  have HF := Aside0.mk hF
  have HF2 := Aside0.mk hF2
  have HM := Aside0.mk hm
  have HN := Aside0.mk hn
  clear h hF hm hF2 hn
  unfold PUT
  go_enter Try.func15, Try.ntmps15
  go_wp2_with fail
  refine (none_no g mb b3 b4 _ (blk_alloc (blk_alloc (blk_alloc HG.out _) _) _)).mono ?_
  rintro e w1 ⟨rfl, rfl⟩
  go_wp2_with fail
  refine (may_calls x A c _ _ (Kd.F_alloc (Kd.F_alloc (Kd.F_alloc HF.out _) _) _)).mono ?_
  rintro e w1 ⟨rfl, hx1⟩
  have hm' := HM.out
  rw [hm']
  clear hm'
  have HG1 := Aside0.mk (hx1.blk (blk_alloc (blk_alloc (blk_alloc HG.out _) _) _) (fun h => h))
  have HK1 := Aside0.mk (hx1.blk (blk_alloc (blk_alloc (blk_new1 w _) _) _) (fun h => h))
  have HV1 := Aside0.mk (hx1.blk (blk_alloc (blk_new2 w _ _) _) (fun h => h))
  have HB1 := Aside0.mk (show w1.heap[w.heap.size + 1 + 1]? = some (.cells #[.int .u8 0, .int .i64 0, .string ⟨#[]⟩, .slice none 0 0, .int .i64 0] 27 (0, 0)) from hx1.blk (blk_new3 w _ _ _) (fun h => h))
  have HX1 := Aside0.mk (((((Ex.refl (fun _ => False) w).alloc _).alloc _).alloc _).trans hx1 (fun _ h => h.elim))
  clear hx1
  have vc0 := (blk_cell HV1.out 0).trans rfl
  have vc1 := (blk_cell HV1.out 1).trans rfl
  have vc2 := (blk_cell HV1.out 2).trans rfl
  have vc3 := (blk_cell HV1.out 3).trans rfl
  have vc4 := (blk_cell HV1.out 4).trans rfl
  have vf0 := blk_frozen HV1.out 0
  have vf1 := blk_frozen HV1.out 1
  have vf2 := blk_frozen HV1.out 2
  have vf3 := blk_frozen HV1.out 3
  have vf4 := blk_frozen HV1.out 4
  have vl := lt_of_blk HV1.out
  go_wp2_with fail
  refine (may_calls y B d _ _ (ex_F HX1.out HF2.out (fun _ _ h => h))).mono ?_
  rintro e w2 ⟨rfl, hx2⟩
  have hm' := HN.out
  rw [hm']
  clear hm'
  have HG2 := Aside0.mk (hx2.blk HG1.out (fun h => h))
  have HK2 := Aside0.mk (hx2.blk HK1.out (fun h => h))
  have HV2 := Aside0.mk (hx2.blk HV1.out (fun h => h))
  have HB2 := Aside0.mk (hx2.blk HB1.out (fun h => h))
  have HX2 := Aside0.mk (HX1.out.trans hx2 (fun _ h => h.elim))
  clear hx2
  clear vc0 vc1 vc2 vc3 vc4 vf0 vf1 vf2 vf3 vf4 vl
  have bc0 := (blk_cell HB2.out 0).trans rfl
  have bc1 := (blk_cell HB2.out 1).trans rfl
  have bc2 := (blk_cell HB2.out 2).trans rfl
  have bc3 := (blk_cell HB2.out 3).trans rfl
  have bc4 := (blk_cell HB2.out 4).trans rfl
  have bf0 := blk_frozen HB2.out 0
  have bf1 := blk_frozen HB2.out 1
  have bf2 := blk_frozen HB2.out 2
  have bf3 := blk_frozen HB2.out 3
  have bf4 := blk_frozen HB2.out 4
  have bl := lt_of_blk HB2.out
  go_wp2_with fail
  refine bodyPost_ret (results_row_tmp2 rfl _ _ (w.heap.size + 1 + 1) 27 _ (0, 0) _ rfl (put27 HB2.out rfl _ _ _ _ _) Try.underlying27 rfl size27) rfl ?_
  exact ⟨rfl, ex_put27 HX2.out (.inr (by omega)) _ _ _ _ _⟩

set_option maxHeartbeats 400000 in
theorem put_key (x y : S27) (A B : Option Addr) (c d g mb : Nat) (b3 b4 : Value) (w : World) (ok : Nat → Prop) (h : w.heap[g]? = some (.cells #[.map (some mb), b3, b4] 66 (0, 0))) (hF : Kd.F k27 w ok A x.f3.length x.f3) (hF2 : Kd.F k27 w ok B y.f3.length y.f3) (hm : mayV x = true) (hn : mayV y = true) (hk : ∀ m, MarkOf x m → m.keys = false) : PUT x y A B c d g w fun e w' => e = .returned (.tuple #[zval, .bool false, .int .i64 40]) ∧ Ex (fun _ => False) w w' := by
  have HG := Aside0.mk h
  have HF := Aside0.mk hF
  have HF2 := Aside0.mk hF2
  have HM := Aside0.mk hm
  have HN := Aside0.mk hn
  have HKK := Aside0.mk hk
  clear h hF hm hF2 hn hk
  unfold PUT
  go_enter Try.func15, Try.ntmps15
  go_wp2_with fail
  refine (none_no g mb b3 b4 _ (blk_alloc (blk_alloc (blk_alloc HG.out _) _) _)).mono ?_
  rintro e w1 ⟨rfl, rfl⟩
  go_wp2_with fail
  refine (may_calls x A c _ _ (Kd.F_alloc (Kd.F_alloc (Kd.F_alloc HF.out _) _) _)).mono ?_
  rintro e w1 ⟨rfl, hx1⟩
  have hm' := HM.out
  rw [hm']
  clear hm'
  have HG1 := Aside0.mk (hx1.blk (blk_alloc (blk_alloc (blk_alloc HG.out _) _) _) (fun h => h))
  have HK1 := Aside0.mk (hx1.blk (blk_alloc (blk_alloc (blk_new1 w _) _) _) (fun h => h))
  have HV1 := Aside0.mk (hx1.blk (blk_alloc (blk_new2 w _ _) _) (fun h => h))
  have HB1 := Aside0.mk (show w1.heap[w.heap.size + 1 + 1]? = some (.cells #[.int .u8 0, .int .i64 0, .string ⟨#[]⟩, .slice none 0 0, .int .i64 0] 27 (0, 0)) from hx1.blk (blk_new3 w _ _ _) (fun h => h))
  have HX1 := Aside0.mk (((((Ex.refl (fun _ => False) w).alloc _).alloc _).alloc _).trans hx1 (fun _ h => h.elim))
  clear hx1
  have vc0 := (blk_cell HV1.out 0).trans rfl
  have vc1 := (blk_cell HV1.out 1).trans rfl
  have vc2 := (blk_cell HV1.out 2).trans rfl
  have vc3 := (blk_cell HV1.out 3).trans rfl
  have vc4 := (blk_cell HV1.out 4).trans rfl
  have vf0 := blk_frozen HV1.out 0
  have vf1 := blk_frozen HV1.out 1
  have vf2 := blk_frozen HV1.out 2
  have vf3 := blk_frozen HV1.out 3
  have vf4 := blk_frozen HV1.out 4
  have vl := lt_of_blk HV1.out
  go_wp2_with fail
  refine (may_calls y B d _ _ (ex_F HX1.out HF2.out (fun _ _ h => h))).mono ?_
  rintro e w2 ⟨rfl, hx2⟩
  have hm' := HN.out
  rw [hm']
  clear hm'
  have HG2 := Aside0.mk (hx2.blk HG1.out (fun h => h))
  have HK2 := Aside0.mk (hx2.blk HK1.out (fun h => h))
  have HV2 := Aside0.mk (hx2.blk HV1.out (fun h => h))
  have HB2 := Aside0.mk (hx2.blk HB1.out (fun h => h))
  have HX2 := Aside0.mk (HX1.out.trans hx2 (fun _ h => h.elim))
  clear hx2
  clear vc0 vc1 vc2 vc3 vc4 vf0 vf1 vf2 vf3 vf4 vl
  have kc0 := (blk_cell HK2.out 0).trans rfl
  have kc1 := (blk_cell HK2.out 1).trans rfl
  have kc2 := (blk_cell HK2.out 2).trans rfl
  have kc3 := (blk_cell HK2.out 3).trans rfl
  have kc4 := (blk_cell HK2.out 4).trans rfl
  have kf0 := blk_frozen HK2.out 0
  have kf1 := blk_frozen HK2.out 1
  have kf2 := blk_frozen HK2.out 2
  have kf3 := blk_frozen HK2.out 3
  have kf4 := blk_frozen HK2.out 4
  have kl := lt_of_blk HK2.out
  go_wp2_with fail
  refine (find_key' x A c g mb b3 b4 _ ok HG2.out (ex_F HX2.out HF.out (fun _ _ h => h)) HM.out).mono ?_
  rintro e w3 ⟨m, h1, h2, hx3, rfl⟩
  have hk' := HKK.out m h1
  rw [hk']
  clear hk' h1 h2
  have HB3 := Aside0.mk (hx3.blk HB2.out (fun h => h))
  have HX3 := Aside0.mk (HX2.out.trans hx3 (fun _ h => h.elim))
  clear hx3
  clear kc0 kc1 kc2 kc3 kc4 kf0 kf1 kf2 kf3 kf4 kl
  have bc0 := (blk_cell HB3.out 0).trans rfl
  have bc1 := (blk_cell HB3.out 1).trans rfl
  have bc2 := (blk_cell HB3.out 2).trans rfl
  have bc3 := (blk_cell HB3.out 3).trans rfl
  have bc4 := (blk_cell HB3.out 4).trans rfl
  have bf0 := blk_frozen HB3.out 0
  have bf1 := blk_frozen HB3.out 1
  have bf2 := blk_frozen HB3.out 2
  have bf3 := blk_frozen HB3.out 3
  have bf4 := blk_frozen HB3.out 4
  have bl := lt_of_blk HB3.out
  go_wp2_with fail
  refine bodyPost_ret (results_row_tmp2 rfl _ _ (w.heap.size + 1 + 1) 27 _ (0, 0) _ rfl (put27 HB3.out rfl _ _ _ _ _) Try.underlying27 rfl size27) rfl ?_
  exact ⟨rfl, ex_put27 HX3.out (.inr (by omega)) _ _ _ _ _⟩

end Go.Proofs.Ythkemcekcfccpaa.PBrandCompares
