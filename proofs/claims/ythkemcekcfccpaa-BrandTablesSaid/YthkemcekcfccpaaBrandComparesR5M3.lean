/- Lemmas for R5. -/
import Derived.Test.YthkemcekcfccpaaBrandComparesR5M2
import Derived.Test.YthkemcekcfccpaaBrandComparesR5M1
import Derived.Test.YthkemcekcfccpaaBrandComparesR5Px4
import Derived.Test.YthkemcekcfccpaaBrandComparesR5Px5
import Derived.Test.YthkemcekcfccpaaBrandComparesR5Px6
import Derived.StillTailTactics
import Derived.Test.YthkemcekcfccpaaBrandComparesR5Px0
import Derived.Test.YthkemcekcfccpaaBrandComparesR5M0
section
namespace Go.Proofs.Ythkemcekcfccpaa.PBrandCompares
open Go.RowKit Go.Shelf Go.Proofs.YthkemcekcfccpaaW.PrintWords Go.Proofs.YthkemcekcfccpaaW.PrintLast Go.Proofs.YthkemcekcfccpaaW.PrintMore
open Go.Proofs.Ythkemcekcfccpaa.GBrandCompares
set_option linter.unusedVariables false
set_option linter.unusedSimpArgs false
attribute [local go_sem] Oper.semAt_some
structure WJ (w W0 : World) (g h : Nat) (n : Int) (st : LoopState) (pe : Option Code) (rec : Rec) (k : Nat) (W : World) : Prop where
  rl : W.heap[W0.heap.size + 1]? = some (.loop (rec.at st pe))
  rd : W.heap[W0.heap.size]? = some (.deferred (some []))
  b4 : W.heap[w.heap.size]? = some (.cells #[.pointer (some ⟨h, 0, none⟩)] 52 (0, 0))
  b5 : W.heap[w.heap.size + 1]? = some (.cells #[.int .i64 n] 3 (0, 0))
  b6 : W.heap[w.heap.size + 1 + 1]? = some (.cells #[.bool false] 4 (0, 0))
  b7 : W.heap[w.heap.size + 1 + 1 + 1]? = some (.cells #[.pointer (some ⟨g, 0, none⟩)] 39 (0, 0))
  b8 : W.heap[w.heap.size + 1 + 1 + 1 + 1]? = some (.cells #[.int .i64 k] 3 (0, 0))
  ex : Ex (fun _ => False) w W
theorem WJ.grow {w W0 W W1 : World} {g h k : Nat} {n : Int} {st : LoopState} {pe : Option Code} {rec : Rec} (j : WJ w W0 g h n st pe rec k W) (hx : Ex (fun _ => False) W W1) : WJ w W0 g h n st pe rec k W1 :=
  ⟨hx.blk j.rl (fun h => h), hx.blk j.rd (fun h => h), hx.blk j.b4 (fun h => h), hx.blk j.b5 (fun h => h), hx.blk j.b6 (fun h => h), hx.blk j.b7 (fun h => h), hx.blk j.b8 (fun h => h), j.ex.trans hx (fun _ h => h.elim)⟩
theorem WJ.made {w W0 wc : World} {g h k : Nat} {n : Int} {rec : Rec} {lr ld : Nat} (hlr : W0.heap.size + 1 = lr) (hld : W0.heap.size = ld) (hsz : w.heap.size + 5 ≤ W0.heap.size) (hrl : wc.heap[lr]? = some (.loop (rec.at .busy none))) (hrd : wc.heap[ld]? = some (.deferred (some [])))
    (h4 : wc.heap[w.heap.size]? = some (.cells #[.pointer (some ⟨h, 0, none⟩)] 52 (0, 0))) (h5 : wc.heap[w.heap.size + 1]? = some (.cells #[.int .i64 n] 3 (0, 0))) (h6 : wc.heap[w.heap.size + 1 + 1]? = some (.cells #[.bool false] 4 (0, 0))) (h7 : wc.heap[w.heap.size + 1 + 1 + 1]? = some (.cells #[.pointer (some ⟨g, 0, none⟩)] 39 (0, 0)))
    (h8 : wc.heap[w.heap.size + 1 + 1 + 1 + 1]? = some (.cells #[.int .i64 k] 3 (0, 0))) (hex : Ex (fun _ => False) w wc) (st : LoopState) (pe : Option Code) : WJ w W0 g h n st pe rec k (wc.putObj lr (.loop (rec.at st pe))) := by
  subst hlr hld
  exact ⟨World.putObj_heap_same (lt_of_blk hrl), putObj_far hrd (by omega) _, putObj_far h4 (by omega) _, putObj_far h5 (by omega) _, putObj_far h6 (by omega) _, putObj_far h7 (by omega) _, putObj_far h8 (by omega) _, ex_putObj hex (.inr (by omega)) _⟩
theorem range_join {P : Program} {Q1 : Exit → Act → World → Prop} {a : Act} {id : Nat} {r : Rec} {l : Nat} {W' : World} (h : (W'.heap[l]? = some (.loop (r.at .ready none))) ∨ W'.heap[l]? = some (.loop (r.at .done (some (.exit id)))))
    (hq : ∀ pe, Q1 .normal a (W'.putObj l (.loop (r.at .exhausted pe)))) :
    (W'.heap[l]? = some (.loop (r.at .ready none)) ∧ Exit.inBlock id Q1 .normal a (W'.putObj l (.loop (r.at .exhausted none)))) ∨ ∃ c, W'.heap[l]? = some (.loop (r.at .done (some c))) ∧ c.wp P (Exit.inBlock id Q1) a (W'.putObj l (.loop (r.at .exhausted (some c)))) := by
  rcases h with h | h
  · exact .inl ⟨h, hq none⟩
  · refine .inr ⟨_, h, ?_⟩
    refine wp_exit ?_
    simp only [Exit.inBlock, if_true]
    exact hq _
set_option maxHeartbeats 4000000 in
set_option maxRecDepth 100000 in
theorem walk_calls {ok T : Nat → Prop} {base h g mb ob : Nat} {u : Value} {l : List Pr} {rows : List Row} {came : Nat} (n : Int) (w : World) (ht : Tab w g mb ob T rows came) (hr : RT w base ok h u l) (hrel : Rel rows l) (hl : l.length < 1000000) (hc : came < 1000000000) :
    Calls Try.prog 23 #[.pointer (some ⟨g, 0, none⟩), .pointer (some ⟨h, 0, none⟩), .int .i64 n] w fun e w' => e = .returned (.bool true) ∧ Ex (fun _ => False) w w' := by
  have HT := Aside0.mk ht
  have HR := Aside0.mk hr
  have HREL := Aside0.mk hrel
  have HLENS := Aside0.mk (show ∀ (pre : List Row) (r : Row) (suf : List Row), Sorted rows (pre ++ r :: suf) → Lens r.k ∧ Lens r.v from fun pre r suf hs => by
    have hm : r.core ∈ rows.map Row.core := hs.1.mem_iff.1 (List.mem_map.2 ⟨r, by simp, rfl⟩)
    obtain ⟨q, hq, he⟩ := List.mem_map.1 hm
    have hg := ht.good q hq
    have h1 := (may_iff _).1 hg.mayk
    have h2 := (may_iff _).1 hg.mayv
    have ek : q.k = r.k := congrArg (fun c : Core => c.2.1) he
    have ev : q.v = r.v := congrArg (fun c : Core => c.2.2.1) he
    rw [← ek, ← ev]
    exact ⟨(wf_may h1.2.2 h1.1).lens, (wf_may h2.2.2 h2.1).lens⟩)
  clear ht hr hrel
  refine calls_of_wp_marks Try.func23 rfl ?_
  simp only [Try.ntmps23, List.size_toArray, List.length_cons, List.length_nil, Nat.reduceAdd, Nat.reduceSub, Array.replicate_succ, Array.replicate_zero, List.push_toArray, List.append_toArray, List.nil_append, List.cons_append]
  have hfq : ∀ (p : Value) (w : World), (binOp .eql 68 (.func (.func 48) #[] #[p]) .nilFunc).run Try.prog w = .ok (.bool false) w := fun p w => by kernel_rfl
  go_wp2_with fail
  refine (all_calls _ _ rfl).mono ?_
  rintro e w1 ⟨rfl, rfl⟩
  go_wp2_with fail
  have HX0 := Aside0.mk ((((((Ex.refl (fun _ => False) w).alloc (.cells #[.pointer (some ⟨h, 0, none⟩)] 52)).alloc (.cells #[.int .i64 n] 3)).alloc (.cells #[.bool false] 4)).alloc (.cells #[.pointer (some ⟨g, 0, none⟩)] 39)).alloc (.cells #[.int .i64 0] 3))
  have B4 := Aside0.mk (blk_alloc (blk_alloc (blk_alloc (blk_alloc (blk_new1 w (.cells #[.pointer (some ⟨h, 0, none⟩)] 52)) (.cells #[.int .i64 n] 3)) (.cells #[.bool false] 4)) (.cells #[.pointer (some ⟨g, 0, none⟩)] 39)) (.cells #[.int .i64 0] 3))
  have B5 := Aside0.mk (blk_alloc (blk_alloc (blk_alloc (blk_new2 w (.cells #[.pointer (some ⟨h, 0, none⟩)] 52) (.cells #[.int .i64 n] 3)) (.cells #[.bool false] 4)) (.cells #[.pointer (some ⟨g, 0, none⟩)] 39)) (.cells #[.int .i64 0] 3))
  have B6 := Aside0.mk (blk_alloc (blk_alloc (blk_new3 w (.cells #[.pointer (some ⟨h, 0, none⟩)] 52) (.cells #[.int .i64 n] 3) (.cells #[.bool false] 4)) (.cells #[.pointer (some ⟨g, 0, none⟩)] 39)) (.cells #[.int .i64 0] 3))
  have B7 := Aside0.mk (blk_alloc (blk_new1 (((w.alloc (.cells #[.pointer (some ⟨h, 0, none⟩)] 52)).alloc (.cells #[.int .i64 n] 3)).alloc (.cells #[.bool false] 4)) (.cells #[.pointer (some ⟨g, 0, none⟩)] 39)) (.cells #[.int .i64 0] 3))
  have B8 := Aside0.mk (blk_new1 ((((w.alloc (.cells #[.pointer (some ⟨h, 0, none⟩)] 52)).alloc (.cells #[.int .i64 n] 3)).alloc (.cells #[.bool false] 4)).alloc (.cells #[.pointer (some ⟨g, 0, none⟩)] 39)) (.cells #[.int .i64 0] 3))
  have HSZ : (((((w.alloc (.cells #[.pointer (some ⟨h, 0, none⟩)] 52)).alloc (.cells #[.int .i64 n] 3)).alloc (.cells #[.bool false] 4)).alloc (.cells #[.pointer (some ⟨g, 0, none⟩)] 39)).alloc (.cells #[.int .i64 0] 3)).heap.size = w.heap.size + 5 := by simp
  simp only [World.size_alloc] at B7 B8
  generalize (((((w.alloc (.cells #[.pointer (some ⟨h, 0, none⟩)] 52)).alloc (.cells #[.int .i64 n] 3)).alloc (.cells #[.bool false] 4)).alloc (.cells #[.pointer (some ⟨g, 0, none⟩)] 39)).alloc (.cells #[.int .i64 0] 3)) = W0 at HX0 B4 B5 B6 B7 B8 HSZ ⊢
  refine wp_range (gf := 48) (lb := #[.pointer (some ⟨w.heap.size + 1 + 1 + 1, 0, none⟩)]) rfl (fun args w => enters_ Try.func48 (by kernel_rfl) rfl args w) ?_
  intro rec hrt hrp hra hrb hrD
  have hmid : Ex (fun _ => False) W0 ((W0.alloc (.deferred (some []))).alloc (.loop (rec.at .ready none))) := ((Ex.refl _ _).alloc _).alloc _
  have hl1 : ((W0.alloc (.deferred (some []))).alloc (.loop (rec.at .ready none))).heap[W0.heap.size + 1]? = some (.loop (rec.at .ready none)) := blk_new2 W0 _ _
  have hl0 : ((W0.alloc (.deferred (some []))).alloc (.loop (rec.at .ready none))).heap[W0.heap.size]? = some (.deferred (some [])) := blk_alloc (blk_new1 W0 _) _
  have hsz1 : ((W0.alloc (.deferred (some []))).alloc (.loop (rec.at .ready none))).heap.size = w.heap.size + 7 := by simp [HSZ]
  generalize (W0.alloc (.deferred (some []))).alloc (.loop (rec.at .ready none)) = W2 at hmid hl1 hl0 hsz1 ⊢
  refine (iter_calls (W0.heap.size + 1) (w.heap.size + 1 + 1 + 1) g mb ob 0 T rows came hc (fun pre W => WJ w W0 g h n .ready none rec pre.length W) (fun pre W => WJ w W0 g h n .done (some (.exit 0)) rec pre.length W ∧ (pre.length : Int) = n) _ (hmid.blk B7.out (fun h => h)) (HT.out.ex0 (HX0.out.trans hmid (fun _ h => h.elim))) (fun pre W W' j hx => j.grow hx) ?hY ?h0).mono ?hend
  case h0 => exact ⟨hl1, hl0, hmid.blk B4.out (fun h => h), hmid.blk B5.out (fun h => h), hmid.blk B6.out (fun h => h), hmid.blk B7.out (fun h => h), hmid.blk B8.out (fun h => h), HX0.out.trans hmid (fun _ h => h.elim)⟩
  case hY =>
    intro pre r W1 lo hi hJ hlo hlone hhi hlk hlv ⟨suf, hsort⟩
    have hkv := HREL.out.sorted hsort
    refine yield_at hJ.rl (by rw [hrp]; rfl) ?_
    rw [hra, hrb, hrp, hrt]
    have HJ := Aside0.mk hJ
    have HL := Aside0.mk (And.intro hlo (And.intro hlone (And.intro hlk hlv)))
    have HKV := Aside0.mk hkv
    have HHI := Aside0.mk hhi
    clear hJ hlo hlone hhi hlk hlv hkv
    gi_wp2
    have hg : Ex (fun _ => False) W1 ((W1.alloc (.cells #[.int .u8 r.k.f0, .int .i64 r.k.f1, .string r.k.f2, .slice r.A r.k.f3.length r.ca, .int .i64 r.k.f4] 27)).alloc (.cells #[.int .u8 r.v.f0, .int .i64 r.v.f1, .string r.v.f2, .slice r.B r.v.f3.length r.cb, .int .i64 r.v.f4] 27)) := ((Ex.refl _ _).alloc _).alloc _
    have hj2 := HJ.out.grow hg
    have hk2 := blk_alloc (blk_new1 W1 (.cells #[.int .u8 r.k.f0, .int .i64 r.k.f1, .string r.k.f2, .slice r.A r.k.f3.length r.ca, .int .i64 r.k.f4] 27)) (.cells #[.int .u8 r.v.f0, .int .i64 r.v.f1, .string r.v.f2, .slice r.B r.v.f3.length r.cb, .int .i64 r.v.f4] 27)
    have hv2 := blk_new2 W1 (.cells #[.int .u8 r.k.f0, .int .i64 r.k.f1, .string r.k.f2, .slice r.A r.k.f3.length r.ca, .int .i64 r.k.f4] 27) (.cells #[.int .u8 r.v.f0, .int .i64 r.v.f1, .string r.v.f2, .slice r.B r.v.f3.length r.cb, .int .i64 r.v.f4] 27)
    have hlw : w.heap.size + 5 + 1 < W1.heap.size := by have := lt_of_blk HJ.out.rl; rw [HSZ] at this; exact this
    refine ⟨by have := hj2.rl; rw [HSZ] at this; exact this, ?_⟩
    generalize (W1.alloc (.cells #[.int .u8 r.k.f0, .int .i64 r.k.f1, .string r.k.f2, .slice r.A r.k.f3.length r.ca, .int .i64 r.k.f4] 27)).alloc (.cells #[.int .u8 r.v.f0, .int .i64 r.v.f1, .string r.v.f2, .slice r.B r.v.f3.length r.cb, .int .i64 r.v.f4] 27) = W3 at hg hj2 hk2 hv2 ⊢
    have hxp : Ex (fun b => b = w.heap.size + 5 + 1) W3 (W3.putObj (w.heap.size + 5 + 1) (.loop (rec.at .busy none))) := ex_putObj (Ex.refl (fun b => b = w.heap.size + 5 + 1) W3) (.inl rfl) _
    gi_wp2
    have HEX := Aside0.mk (show Ex (fun _ => False) w (W3.putObj (w.heap.size + 5 + 1) (.loop (rec.at .busy none))) from (hj2.ex.trans hxp (fun b hb => .inr (by omega))))
    have HB8 := Aside0.mk (hxp.blk hj2.b8 (by omega))
    have HB4 := Aside0.mk (hxp.blk hj2.b4 (by omega))
    have HG4 := Aside0.mk ((hg.mono (S2 := fun b => b < w.heap.size + 7 ∨ (lo ≤ b ∧ b < hi)) (fun _ h => h.elim)).trans hxp (fun b hb => .inl (.inl (by omega))))
    have HB5 := Aside0.mk (hxp.blk hj2.b5 (by omega))
    have HB7 := Aside0.mk (hxp.blk hj2.b7 (by omega))
    have HB6 := Aside0.mk (hxp.blk hj2.b6 (by omega))
    have HRD := Aside0.mk (hxp.blk hj2.rd (by rw [HSZ]; omega))
    have HRL := Aside0.mk (show (W3.putObj (w.heap.size + 5 + 1) (.loop (rec.at .busy none))).heap[w.heap.size + 5 + 1]? = some (.loop (rec.at .busy none)) from World.putObj_heap_same (Nat.lt_of_lt_of_le hlw hg.size))
    have HK2 := Aside0.mk (hxp.blk hk2 (by omega))
    have HV2 := Aside0.mk (hxp.blk hv2 (by omega))
    have HRF := Aside0.mk (And.intro (ex_F hxp (ex_F hg (R_F HL.out.2.1.k) (fun _ _ h => h)) (fun b hb e => by have := hb.1; have := HL.out.1; omega)) (ex_F hxp (ex_F hg (R_F HL.out.2.1.v) (fun _ _ h => h)) (fun b hb e => by have := hb.1; have := HL.out.1; omega)))
    have hlone4 : Lone (W3.putObj (w.heap.size + 5 + 1) (.loop (rec.at .busy none))) lo hi r := (HL.out.2.1.ex hg (fun _ _ _ h => h)).ex hxp (fun b hb _ e => by have := HL.out.1; omega)
    have HLO4 := Aside0.mk (And.intro (Kd.R_mono (Kd.R_bound hlone4.k) (ok' := fun b => (lo ≤ b ∧ b < hi) ∧ b < (W3.putObj (w.heap.size + 5 + 1) (.loop (rec.at .busy none))).heap.size) (fun k hk => ⟨hk.1, hk.2.2.1⟩)) (Kd.R_mono (Kd.R_bound hlone4.v) (ok' := fun b => (lo ≤ b ∧ b < hi) ∧ b < (W3.putObj (w.heap.size + 5 + 1) (.loop (rec.at .busy none))).heap.size) (fun k hk => ⟨hk.1, hk.2.2.1⟩)))
    clear hlone4
    generalize W3.putObj (w.heap.size + 5 + 1) (.loop (rec.at .busy none)) = W4 at HG4 HEX HB8 HB4 HB5 HB6 HB7 HRD HRL HK2 HV2 HRF HLO4 ⊢
    obtain ⟨p, hp, hpk⟩ : ∃ p, l[pre.length]? = some p ∧ (p.k = r.k ∧ p.v = r.v) := by
      have h1 := congrArg (fun l => l[pre.length]?) HKV.out
      simp only [List.map_append, List.map_cons, List.getElem?_map] at h1
      rw [List.getElem?_append_right (by simp)] at h1
      cases hq : l[pre.length]? with
      | none => rw [hq] at h1; simp at h1
      | some p => rw [hq] at h1; simp [Pr.kv] at h1; exact ⟨p, rfl, h1.1.symm, h1.2.symm⟩
    have hil : pre.length < l.length := (List.getElem?_eq_some_iff.1 hp).1
    obtain ⟨M, cm, hu, hcm, hcells⟩ := own_pairs HR.out.own
    subst hu
    obtain ⟨gr, cs, hM, _, _, hcs, hsz, hpc⟩ := hcells _ p hp
    subst hM
    have HPC := Aside0.mk hpc
    have HCS := Aside0.mk hcs
    have HPK := Aside0.mk hpk
    have HGP := Aside0.mk (HR.out.good p (List.mem_of_getElem? hp))
    have HLK := Aside0.mk HL.out.2.2
    have HLN := Aside0.mk (show Lens r.k ∧ Lens r.v from HLENS.out pre r suf hsort)
    have hii : (pre.length : Int) < (l.length : Int) := by omega
    have hi0 : (0 : Int) ≤ (pre.length : Int) := by omega
    have hi100 : pre.length < 1000000 := by omega
    have hge : ¬ (l.length : Int) ≤ (pre.length : Int) := by omega
    clear hpc hcs hpk hp hcells hg hj2 hk2 hv2 hxp hlw
    refine region_in 33 [] (specL [Is (.int .i64 pre.length), Is (.pointer (some ⟨h, 0, none⟩)), Is (.pointer (some ⟨h, 0, none⟩)), Is (.pointer (some ⟨h, 0, none⟩)), Is (.slice (some ⟨gr, 0, none⟩) l.length cm), Is (.int .i64 l.length), Is (.bool false), Is (.bool false), Is (.agg #[.int .u8 r.k.f0, .int .i64 r.k.f1, .string r.k.f2, .slice r.A r.k.f3.length r.ca, .int .i64 r.k.f4]), Is (.pointer (some ⟨h, 0, none⟩)), Is (.pointer (some ⟨h, 0, none⟩)), Is (.pointer (some ⟨h, 0, none⟩)), Is (.slice (some ⟨gr, 0, none⟩) l.length cm), Is (.int .i64 pre.length), Is (.pointer (some ⟨gr, pre.length * 10, none⟩)), Is (.pointer (some ⟨gr, pre.length * 10, none⟩)), Is (.agg #[.int .u8 p.k.f0, .int .i64 p.k.f1, .string p.k.f2, .slice p.A p.k.f3.length p.c, .int .i64 p.k.f4]), Is (.bool true), Is (.bool false), Is (.bool false), Is (.bool false), Is (.agg #[.int .u8 r.v.f0, .int .i64 r.v.f1, .string r.v.f2, .slice r.B r.v.f3.length r.cb, .int .i64 r.v.f4]), Is (.pointer (some ⟨h, 0, none⟩)), Is (.pointer (some ⟨h, 0, none⟩)), Is (.pointer (some ⟨h, 0, none⟩)), Is (.slice (some ⟨gr, 0, none⟩) l.length cm), Is (.int .i64 pre.length), Is (.pointer (some ⟨gr, pre.length * 10, none⟩)), Is (.pointer (some ⟨gr, pre.length * 10 + 5, none⟩)), Is (.agg #[.int .u8 p.v.f0, .int .i64 p.v.f1, .string p.v.f2, .slice p.B p.v.f3.length p.d, .int .i64 p.v.f4]), Is (.bool true), Is (.bool false), Is (.bool false)]) (by decide) (by decide) (by kernel_rfl) (by kernel_rfl) (by kernel_rfl) (stab_all (stab_cons (stab_is _) (stab_cons (stab_is _) (stab_cons (stab_is _) (stab_cons (stab_is _) (stab_cons (stab_is _) (stab_cons (stab_is _) (stab_cons (stab_is _) (stab_cons (stab_is _) (stab_cons (stab_is _) (stab_cons (stab_is _) (stab_cons (stab_is _) (stab_cons (stab_is _) (stab_cons (stab_is _) (stab_cons (stab_is _) (stab_cons (stab_is _) (stab_cons (stab_is _) (stab_cons (stab_is _) (stab_cons (stab_is _) (stab_cons (stab_is _) (stab_cons (stab_is _) (stab_cons (stab_is _) (stab_cons (stab_is _) (stab_cons (stab_is _) (stab_cons (stab_is _) (stab_cons (stab_is _) (stab_cons (stab_is _) (stab_cons (stab_is _) (stab_cons (stab_is _) (stab_cons (stab_is _) (stab_cons (stab_is _) (stab_cons (stab_is _) (stab_cons (stab_is _) (stab_cons (stab_is _) (stab_nil))))))))))))))))))))))))))))))))))) ?_ ?_ ?_
    · intro i hi hnl
      obtain rfl | rfl | rfl | rfl | rfl | rfl | rfl | rfl | rfl | rfl | rfl | rfl | rfl | rfl | rfl | rfl | rfl | rfl | rfl | rfl | rfl | rfl | rfl | rfl | rfl | rfl | rfl | rfl | rfl | rfl | rfl | rfl | rfl : i = 0 ∨ i = 1 ∨ i = 2 ∨ i = 3 ∨ i = 4 ∨ i = 5 ∨ i = 6 ∨ i = 7 ∨ i = 8 ∨ i = 9 ∨ i = 10 ∨ i = 11 ∨ i = 12 ∨ i = 13 ∨ i = 14 ∨ i = 15 ∨ i = 16 ∨ i = 17 ∨ i = 18 ∨ i = 19 ∨ i = 20 ∨ i = 21 ∨ i = 22 ∨ i = 23 ∨ i = 24 ∨ i = 25 ∨ i = 26 ∨ i = 27 ∨ i = 28 ∨ i = 29 ∨ i = 30 ∨ i = 31 ∨ i = 32 := by omega
      · intro o ho ρ yl w1 hx hc hf hgl hp hb
        simp only [List.getElem?_toArray, List.getElem?_cons_succ, List.getElem?_cons_zero, Option.some.injEq] at ho
        subst ho
        have hx := ((Ex.refl (fun _ => False) W4).drew).trans hx (fun _ h => h.elim)
        have b8 := hb 8 (by kernel_rfl)
        clear hp hb
        have hb := hx.blk HB8.out (fun h => h)
        have c0 := (blk_cell hb 0).trans rfl
        have cl := lt_of_blk hb
        refine wantL rfl ⟨.int .i64 pre.length, w1, ?_, Ex.refl _ _, rfl⟩
        go_simp
      · intro o ho ρ yl w1 hx hc hf hgl hp hb
        simp only [List.getElem?_toArray, List.getElem?_cons_succ, List.getElem?_cons_zero, Option.some.injEq] at ho
        subst ho
        have hx := ((Ex.refl (fun _ => False) W4).drew).trans hx (fun _ h => h.elim)
        have b4 := hb 4 (by kernel_rfl)
        clear hp hb
        have hb := hx.blk HB4.out (fun h => h)
        have c0 := (blk_cell hb 0).trans rfl
        have cl := lt_of_blk hb
        refine wantL rfl ⟨.pointer (some ⟨h, 0, none⟩), w1, ?_, Ex.refl _ _, rfl⟩
        go_simp
      · intro o ho ρ yl w1 hx hc hf hgl hp hb
        simp only [List.getElem?_toArray, List.getElem?_cons_succ, List.getElem?_cons_zero, Option.some.injEq] at ho
        subst ho
        have hx := ((Ex.refl (fun _ => False) W4).drew).trans hx (fun _ h => h.elim)
        obtain ⟨v1, s1, e1, y1⟩ := hp 1 (by kernel_rfl)
        have e1 := e1 21 rfl
        obtain rfl : v1 = (.pointer (some ⟨h, 0, none⟩)) := s1
        clear y1
        clear hp hb
        have hh := (HEX.out.trans hx (fun _ h => h.elim)).blk HR.out.hh (fun h => h)
        have c0 := (blk_cell hh 0).trans rfl
        have hhl := lt_of_blk hh
        refine wantL rfl ⟨.pointer (some ⟨h, 0, none⟩), w1, ?_, Ex.refl _ _, rfl⟩
        go_simp
      · intro o ho ρ yl w1 hx hc hf hgl hp hb
        simp only [List.getElem?_toArray, List.getElem?_cons_succ, List.getElem?_cons_zero, Option.some.injEq] at ho
        subst ho
        have hx := ((Ex.refl (fun _ => False) W4).drew).trans hx (fun _ h => h.elim)
        obtain ⟨v2, s2, e2, y2⟩ := hp 2 (by kernel_rfl)
        have e2 := e2 22 rfl
        obtain rfl : v2 = (.pointer (some ⟨h, 0, none⟩)) := s2
        clear y2
        clear hp hb
        have hh := (HEX.out.trans hx (fun _ h => h.elim)).blk HR.out.hh (fun h => h)
        have c0 := (blk_cell hh 0).trans rfl
        have hhl := lt_of_blk hh
        refine wantL rfl ⟨.pointer (some ⟨h, 0, none⟩), w1, ?_, Ex.refl _ _, rfl⟩
        go_simp
      · intro o ho ρ yl w1 hx hc hf hgl hp hb
        simp only [List.getElem?_toArray, List.getElem?_cons_succ, List.getElem?_cons_zero, Option.some.injEq] at ho
        subst ho
        have hx := ((Ex.refl (fun _ => False) W4).drew).trans hx (fun _ h => h.elim)
        obtain ⟨v3, s3, e3, y3⟩ := hp 3 (by kernel_rfl)
        have e3 := e3 23 rfl
        obtain rfl : v3 = (.pointer (some ⟨h, 0, none⟩)) := s3
        clear y3
        clear hp hb
        have hh := (HEX.out.trans hx (fun _ h => h.elim)).blk HR.out.hh (fun h => h)
        have c0 := (blk_cell hh 0).trans rfl
        have hhl := lt_of_blk hh
        refine wantL rfl ⟨.slice (some ⟨gr, 0, none⟩) l.length cm, w1, ?_, Ex.refl _ _, rfl⟩
        go_simp
      · intro o ho ρ yl w1 hx hc hf hgl hp hb
        simp only [List.getElem?_toArray, List.getElem?_cons_succ, List.getElem?_cons_zero, Option.some.injEq] at ho
        subst ho
        have hx := ((Ex.refl (fun _ => False) W4).drew).trans hx (fun _ h => h.elim)
        obtain ⟨v4, s4, e4, y4⟩ := hp 4 (by kernel_rfl)
        have e4 := e4 24 rfl
        obtain rfl : v4 = (.slice (some ⟨gr, 0, none⟩) l.length cm) := s4
        clear y4
        clear hp hb
        refine wantL rfl ⟨.int .i64 l.length, w1, ?_, Ex.refl _ _, rfl⟩
        go_simp
      · intro o ho ρ yl w1 hx hc hf hgl hp hb
        simp only [List.getElem?_toArray, List.getElem?_cons_succ, List.getElem?_cons_zero, Option.some.injEq] at ho
        subst ho
        have hx := ((Ex.refl (fun _ => False) W4).drew).trans hx (fun _ h => h.elim)
        obtain ⟨v0, s0, e0, y0⟩ := hp 0 (by kernel_rfl)
        have e0 := e0 20 rfl
        obtain rfl : v0 = (.int .i64 pre.length) := s0
        clear y0
        obtain ⟨v5, s5, e5, y5⟩ := hp 5 (by kernel_rfl)
        have e5 := e5 25 rfl
        obtain rfl : v5 = (.int .i64 l.length) := s5
        clear y5
        clear hp hb
        refine wantL rfl ⟨.bool false, w1, ?_, Ex.refl _ _, rfl⟩
        go_simp
      · intro o ho ρ yl w1 hx hc hf hgl hp hb
        simp only [List.getElem?_toArray, List.getElem?_cons_succ, List.getElem?_cons_zero, Option.some.injEq] at ho
        subst ho
        have hx := ((Ex.refl (fun _ => False) W4).drew).trans hx (fun _ h => h.elim)
        obtain ⟨v6, s6, e6, y6⟩ := hp 6 (by kernel_rfl)
        have e6 := e6 26 rfl
        obtain rfl : v6 = (.bool false) := s6
        clear y6
        clear hp hb
        refine wantL rfl ⟨.bool false, w1, ?_, Ex.refl _ _, rfl⟩
        go_simp
      · intro o ho ρ yl w1 hx hc hf hgl hp hb
        simp only [List.getElem?_toArray, List.getElem?_cons_succ, List.getElem?_cons_zero, Option.some.injEq] at ho
        subst ho
        have hx := ((Ex.refl (fun _ => False) W4).drew).trans hx (fun _ h => h.elim)
        obtain ⟨v7, s7, e7, y7⟩ := hp 7 (by kernel_rfl)
        have e7 := e7 27 rfl
        obtain rfl : v7 = (.bool false) := s7
        have y7 := y7 rfl
        have b9 := hb 9 (by kernel_rfl)
        clear hp hb
        have hb := hx.blk HK2.out (fun h => h)
        have h0 := (blk_cell hb 0).trans rfl
        have h1 := (blk_cell hb 1).trans rfl
        have h2 := (blk_cell hb 2).trans rfl
        have h3 := (blk_cell hb 3).trans rfl
        have h4 := (blk_cell hb 4).trans rfl
        have hbl := lt_of_blk hb
        refine wantL (by simp [Region.wanted, y7]) ⟨.agg #[.int .u8 r.k.f0, .int .i64 r.k.f1, .string r.k.f2, .slice r.A r.k.f3.length r.ca, .int .i64 r.k.f4], w1, ?_, Ex.refl _ _, rfl⟩
        go_simp
      · intro o ho ρ yl w1 hx hc hf hgl hp hb
        simp only [List.getElem?_toArray, List.getElem?_cons_succ, List.getElem?_cons_zero, Option.some.injEq] at ho
        subst ho
        have hx := ((Ex.refl (fun _ => False) W4).drew).trans hx (fun _ h => h.elim)
        obtain ⟨v7, s7, e7, y7⟩ := hp 7 (by kernel_rfl)
        have e7 := e7 27 rfl
        obtain rfl : v7 = (.bool false) := s7
        have y7 := y7 rfl
        have b4 := hb 4 (by kernel_rfl)
        clear hp hb
        have hb := hx.blk HB4.out (fun h => h)
        have c0 := (blk_cell hb 0).trans rfl
        have cl := lt_of_blk hb
        refine wantL (by simp [Region.wanted, y7]) ⟨.pointer (some ⟨h, 0, none⟩), w1, ?_, Ex.refl _ _, rfl⟩
        go_simp
      · intro o ho ρ yl w1 hx hc hf hgl hp hb
        simp only [List.getElem?_toArray, List.getElem?_cons_succ, List.getElem?_cons_zero, Option.some.injEq] at ho
        subst ho
        have hx := ((Ex.refl (fun _ => False) W4).drew).trans hx (fun _ h => h.elim)
        obtain ⟨v9, s9, e9, y9⟩ := hp 9 (by kernel_rfl)
        have e9 := e9 29 rfl
        obtain rfl : v9 = (.pointer (some ⟨h, 0, none⟩)) := s9
        clear y9
        obtain ⟨v7, s7, e7, y7⟩ := hp 7 (by kernel_rfl)
        have e7 := e7 27 rfl
        obtain rfl : v7 = (.bool false) := s7
        have y7 := y7 rfl
        clear hp hb
        have hh := (HEX.out.trans hx (fun _ h => h.elim)).blk HR.out.hh (fun h => h)
        have c0 := (blk_cell hh 0).trans rfl
        have hhl := lt_of_blk hh
        refine wantL (by simp [Region.wanted, y7]) ⟨.pointer (some ⟨h, 0, none⟩), w1, ?_, Ex.refl _ _, rfl⟩
        go_simp
      · intro o ho ρ yl w1 hx hc hf hgl hp hb
        simp only [List.getElem?_toArray, List.getElem?_cons_succ, List.getElem?_cons_zero, Option.some.injEq] at ho
        subst ho
        have hx := ((Ex.refl (fun _ => False) W4).drew).trans hx (fun _ h => h.elim)
        obtain ⟨v10, s10, e10, y10⟩ := hp 10 (by kernel_rfl)
        have e10 := e10 30 rfl
        obtain rfl : v10 = (.pointer (some ⟨h, 0, none⟩)) := s10
        clear y10
        obtain ⟨v7, s7, e7, y7⟩ := hp 7 (by kernel_rfl)
        have e7 := e7 27 rfl
        obtain rfl : v7 = (.bool false) := s7
        have y7 := y7 rfl
        clear hp hb
        have hh := (HEX.out.trans hx (fun _ h => h.elim)).blk HR.out.hh (fun h => h)
        have c0 := (blk_cell hh 0).trans rfl
        have hhl := lt_of_blk hh
        refine wantL (by simp [Region.wanted, y7]) ⟨.pointer (some ⟨h, 0, none⟩), w1, ?_, Ex.refl _ _, rfl⟩
        go_simp
      · intro o ho ρ yl w1 hx hc hf hgl hp hb
        simp only [List.getElem?_toArray, List.getElem?_cons_succ, List.getElem?_cons_zero, Option.some.injEq] at ho
        subst ho
        have hx := ((Ex.refl (fun _ => False) W4).drew).trans hx (fun _ h => h.elim)
        obtain ⟨v11, s11, e11, y11⟩ := hp 11 (by kernel_rfl)
        have e11 := e11 31 rfl
        obtain rfl : v11 = (.pointer (some ⟨h, 0, none⟩)) := s11
        clear y11
        obtain ⟨v7, s7, e7, y7⟩ := hp 7 (by kernel_rfl)
        have e7 := e7 27 rfl
        obtain rfl : v7 = (.bool false) := s7
        have y7 := y7 rfl
        clear hp hb
        have hh := (HEX.out.trans hx (fun _ h => h.elim)).blk HR.out.hh (fun h => h)
        have c0 := (blk_cell hh 0).trans rfl
        have hhl := lt_of_blk hh
        refine wantL (by simp [Region.wanted, y7]) ⟨.slice (some ⟨gr, 0, none⟩) l.length cm, w1, ?_, Ex.refl _ _, rfl⟩
        go_simp
      · intro o ho ρ yl w1 hx hc hf hgl hp hb
        simp only [List.getElem?_toArray, List.getElem?_cons_succ, List.getElem?_cons_zero, Option.some.injEq] at ho
        subst ho
        have hx := ((Ex.refl (fun _ => False) W4).drew).trans hx (fun _ h => h.elim)
        obtain ⟨v7, s7, e7, y7⟩ := hp 7 (by kernel_rfl)
        have e7 := e7 27 rfl
        obtain rfl : v7 = (.bool false) := s7
        have y7 := y7 rfl
        have b8 := hb 8 (by kernel_rfl)
        clear hp hb
        have hb := hx.blk HB8.out (fun h => h)
        have c0 := (blk_cell hb 0).trans rfl
        have cl := lt_of_blk hb
        refine wantL (by simp [Region.wanted, y7]) ⟨.int .i64 pre.length, w1, ?_, Ex.refl _ _, rfl⟩
        go_simp
      · intro o ho ρ yl w1 hx hc hf hgl hp hb
        simp only [List.getElem?_toArray, List.getElem?_cons_succ, List.getElem?_cons_zero, Option.some.injEq] at ho
        subst ho
        have hx := ((Ex.refl (fun _ => False) W4).drew).trans hx (fun _ h => h.elim)
        obtain ⟨v12, s12, e12, y12⟩ := hp 12 (by kernel_rfl)
        have e12 := e12 32 rfl
        obtain rfl : v12 = (.slice (some ⟨gr, 0, none⟩) l.length cm) := s12
        clear y12
        obtain ⟨v13, s13, e13, y13⟩ := hp 13 (by kernel_rfl)
        have e13 := e13 33 rfl
        obtain rfl : v13 = (.int .i64 pre.length) := s13
        clear y13
        obtain ⟨v7, s7, e7, y7⟩ := hp 7 (by kernel_rfl)
        have e7 := e7 27 rfl
        obtain rfl : v7 = (.bool false) := s7
        have y7 := y7 rfl
        clear hp hb
        refine wantL (by simp [Region.wanted, y7]) ⟨.pointer (some ⟨gr, pre.length * 10, none⟩), w1, ?_, Ex.refl _ _, rfl⟩
        go_simp
      · intro o ho ρ yl w1 hx hc hf hgl hp hb
        simp only [List.getElem?_toArray, List.getElem?_cons_succ, List.getElem?_cons_zero, Option.some.injEq] at ho
        subst ho
        have hx := ((Ex.refl (fun _ => False) W4).drew).trans hx (fun _ h => h.elim)
        obtain ⟨v14, s14, e14, y14⟩ := hp 14 (by kernel_rfl)
        have e14 := e14 34 rfl
        obtain rfl : v14 = (.pointer (some ⟨gr, pre.length * 10, none⟩)) := s14
        clear y14
        obtain ⟨v7, s7, e7, y7⟩ := hp 7 (by kernel_rfl)
        have e7 := e7 27 rfl
        obtain rfl : v7 = (.bool false) := s7
        have y7 := y7 rfl
        clear hp hb
        have hlg := lt_of_blk HCS.out
        have h0 : w1.cell? ⟨gr, pre.length * 10, none⟩ = some (.int .u8 p.k.f0) := ((HEX.out.trans hx (fun _ h => h.elim)).cell hlg (fun h => h) _).trans (HPC.out 0 _ rfl)
        have h1 : w1.cell? ⟨gr, pre.length * 10 + 1, none⟩ = some (.int .i64 p.k.f1) := ((HEX.out.trans hx (fun _ h => h.elim)).cell hlg (fun h => h) _).trans (HPC.out 1 _ rfl)
        have h2 : w1.cell? ⟨gr, pre.length * 10 + 2, none⟩ = some (.string p.k.f2) := ((HEX.out.trans hx (fun _ h => h.elim)).cell hlg (fun h => h) _).trans (HPC.out 2 _ rfl)
        have h3 : w1.cell? ⟨gr, pre.length * 10 + 3, none⟩ = some (.slice p.A p.k.f3.length p.c) := ((HEX.out.trans hx (fun _ h => h.elim)).cell hlg (fun h => h) _).trans (HPC.out 3 _ rfl)
        have h4 : w1.cell? ⟨gr, pre.length * 10 + 4, none⟩ = some (.int .i64 p.k.f4) := ((HEX.out.trans hx (fun _ h => h.elim)).cell hlg (fun h => h) _).trans (HPC.out 4 _ rfl)
        have hlg1 := lt_of_blk ((HEX.out.trans hx (fun _ h => h.elim)).blk HCS.out (fun h => h))
        refine wantL (by simp [Region.wanted, y7]) ⟨.pointer (some ⟨gr, pre.length * 10, none⟩), w1, ?_, Ex.refl _ _, rfl⟩
        go_simp
      · intro o ho ρ yl w1 hx hc hf hgl hp hb
        simp only [List.getElem?_toArray, List.getElem?_cons_succ, List.getElem?_cons_zero, Option.some.injEq] at ho
        subst ho
        have hx := ((Ex.refl (fun _ => False) W4).drew).trans hx (fun _ h => h.elim)
        obtain ⟨v15, s15, e15, y15⟩ := hp 15 (by kernel_rfl)
        have e15 := e15 35 rfl
        obtain rfl : v15 = (.pointer (some ⟨gr, pre.length * 10, none⟩)) := s15
        clear y15
        obtain ⟨v7, s7, e7, y7⟩ := hp 7 (by kernel_rfl)
        have e7 := e7 27 rfl
        obtain rfl : v7 = (.bool false) := s7
        have y7 := y7 rfl
        clear hp hb
        have hlg := lt_of_blk HCS.out
        have h0 : w1.cell? ⟨gr, pre.length * 10, none⟩ = some (.int .u8 p.k.f0) := ((HEX.out.trans hx (fun _ h => h.elim)).cell hlg (fun h => h) _).trans (HPC.out 0 _ rfl)
        have h1 : w1.cell? ⟨gr, pre.length * 10 + 1, none⟩ = some (.int .i64 p.k.f1) := ((HEX.out.trans hx (fun _ h => h.elim)).cell hlg (fun h => h) _).trans (HPC.out 1 _ rfl)
        have h2 : w1.cell? ⟨gr, pre.length * 10 + 2, none⟩ = some (.string p.k.f2) := ((HEX.out.trans hx (fun _ h => h.elim)).cell hlg (fun h => h) _).trans (HPC.out 2 _ rfl)
        have h3 : w1.cell? ⟨gr, pre.length * 10 + 3, none⟩ = some (.slice p.A p.k.f3.length p.c) := ((HEX.out.trans hx (fun _ h => h.elim)).cell hlg (fun h => h) _).trans (HPC.out 3 _ rfl)
        have h4 : w1.cell? ⟨gr, pre.length * 10 + 4, none⟩ = some (.int .i64 p.k.f4) := ((HEX.out.trans hx (fun _ h => h.elim)).cell hlg (fun h => h) _).trans (HPC.out 4 _ rfl)
        have hlg1 := lt_of_blk ((HEX.out.trans hx (fun _ h => h.elim)).blk HCS.out (fun h => h))
        refine wantL (by simp [Region.wanted, y7]) ⟨.agg #[.int .u8 p.k.f0, .int .i64 p.k.f1, .string p.k.f2, .slice p.A p.k.f3.length p.c, .int .i64 p.k.f4], w1, ?_, Ex.refl _ _, rfl⟩
        go_simp
      · intro o ho ρ yl w1 hx hc hf hgl hp hb
        simp only [List.getElem?_toArray, List.getElem?_cons_succ, List.getElem?_cons_zero, Option.some.injEq] at ho
        subst ho
        have hx := ((Ex.refl (fun _ => False) W4).drew).trans hx (fun _ h => h.elim)
        obtain ⟨v8, s8, e8, y8⟩ := hp 8 (by kernel_rfl)
        have e8 := e8 28 rfl
        obtain rfl : v8 = (.agg #[.int .u8 r.k.f0, .int .i64 r.k.f1, .string r.k.f2, .slice r.A r.k.f3.length r.ca, .int .i64 r.k.f4]) := s8
        clear y8
        obtain ⟨v16, s16, e16, y16⟩ := hp 16 (by kernel_rfl)
        have e16 := e16 36 rfl
        obtain rfl : v16 = (.agg #[.int .u8 p.k.f0, .int .i64 p.k.f1, .string p.k.f2, .slice p.A p.k.f3.length p.c, .int .i64 p.k.f4]) := s16
        clear y16
        obtain ⟨v7, s7, e7, y7⟩ := hp 7 (by kernel_rfl)
        have e7 := e7 27 rfl
        obtain rfl : v7 = (.bool false) := s7
        have y7 := y7 rfl
        clear hp hb
        refine wantR (by simp [Region.wanted, y7]) ⟨26, #[.agg #[.int .u8 r.k.f0, .int .i64 r.k.f1, .string r.k.f2, .slice r.A r.k.f3.length r.ca, .int .i64 r.k.f4], .agg #[.int .u8 p.k.f0, .int .i64 p.k.f1, .string p.k.f2, .slice p.A p.k.f3.length p.c, .int .i64 p.k.f4]], exec_call' Try.func26 (by kernel_rfl) rfl _ rfl (by simp [e8, e16]) (hf 26), ?_⟩
        refine (same_calls r.k p.k r.A p.A r.ca p.c _ HLK.out.1 (Kd.F_now (ex_F hx HRF.out.1 (fun _ _ h => h))) HGP.out.lk (Kd.F_now (ex_F (HEX.out.trans hx (fun _ h => h.elim)) HGP.out.fk (fun _ _ h => h))) HLN.out.1).mono ?_
        rintro e' wq ⟨rfl, hq0⟩
        exact ⟨_, rfl, Ex.of_below hq0, by rw [eqS_iff.2 HPK.out.1.symm]; rfl⟩
      · intro o ho ρ yl w1 hx hc hf hgl hp hb
        simp only [List.getElem?_toArray, List.getElem?_cons_succ, List.getElem?_cons_zero, Option.some.injEq] at ho
        subst ho
        have hx := ((Ex.refl (fun _ => False) W4).drew).trans hx (fun _ h => h.elim)
        obtain ⟨v17, s17, e17, y17⟩ := hp 17 (by kernel_rfl)
        have e17 := e17 37 rfl
        obtain rfl : v17 = (.bool true) := s17
        clear y17
        obtain ⟨v7, s7, e7, y7⟩ := hp 7 (by kernel_rfl)
        have e7 := e7 27 rfl
        obtain rfl : v7 = (.bool false) := s7
        have y7 := y7 rfl
        clear hp hb
        refine wantL (by simp [Region.wanted, y7]) ⟨.bool false, w1, ?_, Ex.refl _ _, rfl⟩
        go_simp
      · intro o ho ρ yl w1 hx hc hf hgl hp hb
        simp only [List.getElem?_toArray, List.getElem?_cons_succ, List.getElem?_cons_zero, Option.some.injEq] at ho
        subst ho
        have hx := ((Ex.refl (fun _ => False) W4).drew).trans hx (fun _ h => h.elim)
        obtain ⟨v7, s7, e7, y7⟩ := hp 7 (by kernel_rfl)
        have e7 := e7 27 rfl
        obtain rfl : v7 = (.bool false) := s7
        clear y7
        obtain ⟨v18, s18, e18, y18⟩ := hp 18 (by kernel_rfl)
        have e18 := e18 38 rfl
        obtain rfl : v18 = (.bool false) := s18
        clear y18
        clear hp hb
        refine wantL rfl ⟨.bool false, w1, ?_, Ex.refl _ _, rfl⟩
        go_simp
      · intro o ho ρ yl w1 hx hc hf hgl hp hb
        simp only [List.getElem?_toArray, List.getElem?_cons_succ, List.getElem?_cons_zero, Option.some.injEq] at ho
        subst ho
        have hx := ((Ex.refl (fun _ => False) W4).drew).trans hx (fun _ h => h.elim)
        obtain ⟨v19, s19, e19, y19⟩ := hp 19 (by kernel_rfl)
        have e19 := e19 39 rfl
        obtain rfl : v19 = (.bool false) := s19
        clear y19
        obtain ⟨v17, s17, e17, y17⟩ := hp 17 (by kernel_rfl)
        have e17 := e17 37 rfl
        obtain rfl : v17 = (.bool true) := s17
        clear y17
        clear hp hb
        refine wantL rfl ⟨.bool false, w1, ?_, Ex.refl _ _, rfl⟩
        go_simp
      · intro o ho ρ yl w1 hx hc hf hgl hp hb
        simp only [List.getElem?_toArray, List.getElem?_cons_succ, List.getElem?_cons_zero, Option.some.injEq] at ho
        subst ho
        have hx := ((Ex.refl (fun _ => False) W4).drew).trans hx (fun _ h => h.elim)
        obtain ⟨v20, s20, e20, y20⟩ := hp 20 (by kernel_rfl)
        have e20 := e20 40 rfl
        obtain rfl : v20 = (.bool false) := s20
        have y20 := y20 rfl
        have b10 := hb 10 (by kernel_rfl)
        clear hp hb
        have hb := hx.blk HV2.out (fun h => h)
        have h0 := (blk_cell hb 0).trans rfl
        have h1 := (blk_cell hb 1).trans rfl
        have h2 := (blk_cell hb 2).trans rfl
        have h3 := (blk_cell hb 3).trans rfl
        have h4 := (blk_cell hb 4).trans rfl
        have hbl := lt_of_blk hb
        refine wantL (by simp [Region.wanted, y20]) ⟨.agg #[.int .u8 r.v.f0, .int .i64 r.v.f1, .string r.v.f2, .slice r.B r.v.f3.length r.cb, .int .i64 r.v.f4], w1, ?_, Ex.refl _ _, rfl⟩
        go_simp
      · intro o ho ρ yl w1 hx hc hf hgl hp hb
        simp only [List.getElem?_toArray, List.getElem?_cons_succ, List.getElem?_cons_zero, Option.some.injEq] at ho
        subst ho
        have hx := ((Ex.refl (fun _ => False) W4).drew).trans hx (fun _ h => h.elim)
        obtain ⟨v20, s20, e20, y20⟩ := hp 20 (by kernel_rfl)
        have e20 := e20 40 rfl
        obtain rfl : v20 = (.bool false) := s20
        have y20 := y20 rfl
        have b4 := hb 4 (by kernel_rfl)
        clear hp hb
        have hb := hx.blk HB4.out (fun h => h)
        have c0 := (blk_cell hb 0).trans rfl
        have cl := lt_of_blk hb
        refine wantL (by simp [Region.wanted, y20]) ⟨.pointer (some ⟨h, 0, none⟩), w1, ?_, Ex.refl _ _, rfl⟩
        go_simp
      · intro o ho ρ yl w1 hx hc hf hgl hp hb
        simp only [List.getElem?_toArray, List.getElem?_cons_succ, List.getElem?_cons_zero, Option.some.injEq] at ho
        subst ho
        have hx := ((Ex.refl (fun _ => False) W4).drew).trans hx (fun _ h => h.elim)
        obtain ⟨v22, s22, e22, y22⟩ := hp 22 (by kernel_rfl)
        have e22 := e22 42 rfl
        obtain rfl : v22 = (.pointer (some ⟨h, 0, none⟩)) := s22
        clear y22
        obtain ⟨v20, s20, e20, y20⟩ := hp 20 (by kernel_rfl)
        have e20 := e20 40 rfl
        obtain rfl : v20 = (.bool false) := s20
        have y20 := y20 rfl
        clear hp hb
        have hh := (HEX.out.trans hx (fun _ h => h.elim)).blk HR.out.hh (fun h => h)
        have c0 := (blk_cell hh 0).trans rfl
        have hhl := lt_of_blk hh
        refine wantL (by simp [Region.wanted, y20]) ⟨.pointer (some ⟨h, 0, none⟩), w1, ?_, Ex.refl _ _, rfl⟩
        go_simp
      · intro o ho ρ yl w1 hx hc hf hgl hp hb
        simp only [List.getElem?_toArray, List.getElem?_cons_succ, List.getElem?_cons_zero, Option.some.injEq] at ho
        subst ho
        have hx := ((Ex.refl (fun _ => False) W4).drew).trans hx (fun _ h => h.elim)
        obtain ⟨v23, s23, e23, y23⟩ := hp 23 (by kernel_rfl)
        have e23 := e23 43 rfl
        obtain rfl : v23 = (.pointer (some ⟨h, 0, none⟩)) := s23
        clear y23
        obtain ⟨v20, s20, e20, y20⟩ := hp 20 (by kernel_rfl)
        have e20 := e20 40 rfl
        obtain rfl : v20 = (.bool false) := s20
        have y20 := y20 rfl
        clear hp hb
        have hh := (HEX.out.trans hx (fun _ h => h.elim)).blk HR.out.hh (fun h => h)
        have c0 := (blk_cell hh 0).trans rfl
        have hhl := lt_of_blk hh
        refine wantL (by simp [Region.wanted, y20]) ⟨.pointer (some ⟨h, 0, none⟩), w1, ?_, Ex.refl _ _, rfl⟩
        go_simp
      · intro o ho ρ yl w1 hx hc hf hgl hp hb
        simp only [List.getElem?_toArray, List.getElem?_cons_succ, List.getElem?_cons_zero, Option.some.injEq] at ho
        subst ho
        have hx := ((Ex.refl (fun _ => False) W4).drew).trans hx (fun _ h => h.elim)
        obtain ⟨v24, s24, e24, y24⟩ := hp 24 (by kernel_rfl)
        have e24 := e24 44 rfl
        obtain rfl : v24 = (.pointer (some ⟨h, 0, none⟩)) := s24
        clear y24
        obtain ⟨v20, s20, e20, y20⟩ := hp 20 (by kernel_rfl)
        have e20 := e20 40 rfl
        obtain rfl : v20 = (.bool false) := s20
        have y20 := y20 rfl
        clear hp hb
        have hh := (HEX.out.trans hx (fun _ h => h.elim)).blk HR.out.hh (fun h => h)
        have c0 := (blk_cell hh 0).trans rfl
        have hhl := lt_of_blk hh
        refine wantL (by simp [Region.wanted, y20]) ⟨.slice (some ⟨gr, 0, none⟩) l.length cm, w1, ?_, Ex.refl _ _, rfl⟩
        go_simp
      · intro o ho ρ yl w1 hx hc hf hgl hp hb
        simp only [List.getElem?_toArray, List.getElem?_cons_succ, List.getElem?_cons_zero, Option.some.injEq] at ho
        subst ho
        have hx := ((Ex.refl (fun _ => False) W4).drew).trans hx (fun _ h => h.elim)
        obtain ⟨v20, s20, e20, y20⟩ := hp 20 (by kernel_rfl)
        have e20 := e20 40 rfl
        obtain rfl : v20 = (.bool false) := s20
        have y20 := y20 rfl
        have b8 := hb 8 (by kernel_rfl)
        clear hp hb
        have hb := hx.blk HB8.out (fun h => h)
        have c0 := (blk_cell hb 0).trans rfl
        have cl := lt_of_blk hb
        refine wantL (by simp [Region.wanted, y20]) ⟨.int .i64 pre.length, w1, ?_, Ex.refl _ _, rfl⟩
        go_simp
      · intro o ho ρ yl w1 hx hc hf hgl hp hb
        simp only [List.getElem?_toArray, List.getElem?_cons_succ, List.getElem?_cons_zero, Option.some.injEq] at ho
        subst ho
        have hx := ((Ex.refl (fun _ => False) W4).drew).trans hx (fun _ h => h.elim)
        obtain ⟨v25, s25, e25, y25⟩ := hp 25 (by kernel_rfl)
        have e25 := e25 45 rfl
        obtain rfl : v25 = (.slice (some ⟨gr, 0, none⟩) l.length cm) := s25
        clear y25
        obtain ⟨v26, s26, e26, y26⟩ := hp 26 (by kernel_rfl)
        have e26 := e26 46 rfl
        obtain rfl : v26 = (.int .i64 pre.length) := s26
        clear y26
        obtain ⟨v20, s20, e20, y20⟩ := hp 20 (by kernel_rfl)
        have e20 := e20 40 rfl
        obtain rfl : v20 = (.bool false) := s20
        have y20 := y20 rfl
        clear hp hb
        refine wantL (by simp [Region.wanted, y20]) ⟨.pointer (some ⟨gr, pre.length * 10, none⟩), w1, ?_, Ex.refl _ _, rfl⟩
        go_simp
      · intro o ho ρ yl w1 hx hc hf hgl hp hb
        simp only [List.getElem?_toArray, List.getElem?_cons_succ, List.getElem?_cons_zero, Option.some.injEq] at ho
        subst ho
        have hx := ((Ex.refl (fun _ => False) W4).drew).trans hx (fun _ h => h.elim)
        obtain ⟨v27, s27, e27, y27⟩ := hp 27 (by kernel_rfl)
        have e27 := e27 47 rfl
        obtain rfl : v27 = (.pointer (some ⟨gr, pre.length * 10, none⟩)) := s27
        clear y27
        obtain ⟨v20, s20, e20, y20⟩ := hp 20 (by kernel_rfl)
        have e20 := e20 40 rfl
        obtain rfl : v20 = (.bool false) := s20
        have y20 := y20 rfl
        clear hp hb
        have hlg := lt_of_blk HCS.out
        have h0 : w1.cell? ⟨gr, pre.length * 10 + 5, none⟩ = some (.int .u8 p.v.f0) := ((HEX.out.trans hx (fun _ h => h.elim)).cell hlg (fun h => h) _).trans (HPC.out 5 _ rfl)
        have h1 : w1.cell? ⟨gr, pre.length * 10 + 6, none⟩ = some (.int .i64 p.v.f1) := ((HEX.out.trans hx (fun _ h => h.elim)).cell hlg (fun h => h) _).trans (HPC.out 6 _ rfl)
        have h2 : w1.cell? ⟨gr, pre.length * 10 + 7, none⟩ = some (.string p.v.f2) := ((HEX.out.trans hx (fun _ h => h.elim)).cell hlg (fun h => h) _).trans (HPC.out 7 _ rfl)
        have h3 : w1.cell? ⟨gr, pre.length * 10 + 8, none⟩ = some (.slice p.B p.v.f3.length p.d) := ((HEX.out.trans hx (fun _ h => h.elim)).cell hlg (fun h => h) _).trans (HPC.out 8 _ rfl)
        have h4 : w1.cell? ⟨gr, pre.length * 10 + 9, none⟩ = some (.int .i64 p.v.f4) := ((HEX.out.trans hx (fun _ h => h.elim)).cell hlg (fun h => h) _).trans (HPC.out 9 _ rfl)
        have hlg1 := lt_of_blk ((HEX.out.trans hx (fun _ h => h.elim)).blk HCS.out (fun h => h))
        refine wantL (by simp [Region.wanted, y20]) ⟨.pointer (some ⟨gr, pre.length * 10 + 5, none⟩), w1, ?_, Ex.refl _ _, rfl⟩
        go_simp
      · intro o ho ρ yl w1 hx hc hf hgl hp hb
        simp only [List.getElem?_toArray, List.getElem?_cons_succ, List.getElem?_cons_zero, Option.some.injEq] at ho
        subst ho
        have hx := ((Ex.refl (fun _ => False) W4).drew).trans hx (fun _ h => h.elim)
        obtain ⟨v28, s28, e28, y28⟩ := hp 28 (by kernel_rfl)
        have e28 := e28 48 rfl
        obtain rfl : v28 = (.pointer (some ⟨gr, pre.length * 10 + 5, none⟩)) := s28
        clear y28
        obtain ⟨v20, s20, e20, y20⟩ := hp 20 (by kernel_rfl)
        have e20 := e20 40 rfl
        obtain rfl : v20 = (.bool false) := s20
        have y20 := y20 rfl
        clear hp hb
        have hlg := lt_of_blk HCS.out
        have h0 : w1.cell? ⟨gr, pre.length * 10 + 5, none⟩ = some (.int .u8 p.v.f0) := ((HEX.out.trans hx (fun _ h => h.elim)).cell hlg (fun h => h) _).trans (HPC.out 5 _ rfl)
        have h1 : w1.cell? ⟨gr, pre.length * 10 + 6, none⟩ = some (.int .i64 p.v.f1) := ((HEX.out.trans hx (fun _ h => h.elim)).cell hlg (fun h => h) _).trans (HPC.out 6 _ rfl)
        have h2 : w1.cell? ⟨gr, pre.length * 10 + 7, none⟩ = some (.string p.v.f2) := ((HEX.out.trans hx (fun _ h => h.elim)).cell hlg (fun h => h) _).trans (HPC.out 7 _ rfl)
        have h3 : w1.cell? ⟨gr, pre.length * 10 + 8, none⟩ = some (.slice p.B p.v.f3.length p.d) := ((HEX.out.trans hx (fun _ h => h.elim)).cell hlg (fun h => h) _).trans (HPC.out 8 _ rfl)
        have h4 : w1.cell? ⟨gr, pre.length * 10 + 9, none⟩ = some (.int .i64 p.v.f4) := ((HEX.out.trans hx (fun _ h => h.elim)).cell hlg (fun h => h) _).trans (HPC.out 9 _ rfl)
        have hlg1 := lt_of_blk ((HEX.out.trans hx (fun _ h => h.elim)).blk HCS.out (fun h => h))
        refine wantL (by simp [Region.wanted, y20]) ⟨.agg #[.int .u8 p.v.f0, .int .i64 p.v.f1, .string p.v.f2, .slice p.B p.v.f3.length p.d, .int .i64 p.v.f4], w1, ?_, Ex.refl _ _, rfl⟩
        go_simp
      · intro o ho ρ yl w1 hx hc hf hgl hp hb
        simp only [List.getElem?_toArray, List.getElem?_cons_succ, List.getElem?_cons_zero, Option.some.injEq] at ho
        subst ho
        have hx := ((Ex.refl (fun _ => False) W4).drew).trans hx (fun _ h => h.elim)
        obtain ⟨v21, s21, e21, y21⟩ := hp 21 (by kernel_rfl)
        have e21 := e21 41 rfl
        obtain rfl : v21 = (.agg #[.int .u8 r.v.f0, .int .i64 r.v.f1, .string r.v.f2, .slice r.B r.v.f3.length r.cb, .int .i64 r.v.f4]) := s21
        clear y21
        obtain ⟨v29, s29, e29, y29⟩ := hp 29 (by kernel_rfl)
        have e29 := e29 49 rfl
        obtain rfl : v29 = (.agg #[.int .u8 p.v.f0, .int .i64 p.v.f1, .string p.v.f2, .slice p.B p.v.f3.length p.d, .int .i64 p.v.f4]) := s29
        clear y29
        obtain ⟨v20, s20, e20, y20⟩ := hp 20 (by kernel_rfl)
        have e20 := e20 40 rfl
        obtain rfl : v20 = (.bool false) := s20
        have y20 := y20 rfl
        clear hp hb
        refine wantR (by simp [Region.wanted, y20]) ⟨26, #[.agg #[.int .u8 r.v.f0, .int .i64 r.v.f1, .string r.v.f2, .slice r.B r.v.f3.length r.cb, .int .i64 r.v.f4], .agg #[.int .u8 p.v.f0, .int .i64 p.v.f1, .string p.v.f2, .slice p.B p.v.f3.length p.d, .int .i64 p.v.f4]], exec_call' Try.func26 (by kernel_rfl) rfl _ rfl (by simp [e21, e29]) (hf 26), ?_⟩
        refine (same_calls r.v p.v r.B p.B r.cb p.d _ HLK.out.2 (Kd.F_now (ex_F hx HRF.out.2 (fun _ _ h => h))) HGP.out.lv (Kd.F_now (ex_F (HEX.out.trans hx (fun _ h => h.elim)) HGP.out.fv (fun _ _ h => h))) HLN.out.2).mono ?_
        rintro e' wq ⟨rfl, hq0⟩
        exact ⟨_, rfl, Ex.of_below hq0, by rw [eqS_iff.2 HPK.out.2.symm]; rfl⟩
      · intro o ho ρ yl w1 hx hc hf hgl hp hb
        simp only [List.getElem?_toArray, List.getElem?_cons_succ, List.getElem?_cons_zero, Option.some.injEq] at ho
        subst ho
        have hx := ((Ex.refl (fun _ => False) W4).drew).trans hx (fun _ h => h.elim)
        obtain ⟨v30, s30, e30, y30⟩ := hp 30 (by kernel_rfl)
        have e30 := e30 50 rfl
        obtain rfl : v30 = (.bool true) := s30
        clear y30
        obtain ⟨v20, s20, e20, y20⟩ := hp 20 (by kernel_rfl)
        have e20 := e20 40 rfl
        obtain rfl : v20 = (.bool false) := s20
        have y20 := y20 rfl
        clear hp hb
        refine wantL (by simp [Region.wanted, y20]) ⟨.bool false, w1, ?_, Ex.refl _ _, rfl⟩
        go_simp
      · intro o ho ρ yl w1 hx hc hf hgl hp hb
        simp only [List.getElem?_toArray, List.getElem?_cons_succ, List.getElem?_cons_zero, Option.some.injEq] at ho
        subst ho
        have hx := ((Ex.refl (fun _ => False) W4).drew).trans hx (fun _ h => h.elim)
        obtain ⟨v20, s20, e20, y20⟩ := hp 20 (by kernel_rfl)
        have e20 := e20 40 rfl
        obtain rfl : v20 = (.bool false) := s20
        clear y20
        obtain ⟨v31, s31, e31, y31⟩ := hp 31 (by kernel_rfl)
        have e31 := e31 51 rfl
        obtain rfl : v31 = (.bool false) := s31
        clear y31
        clear hp hb
        refine wantL rfl ⟨.bool false, w1, ?_, Ex.refl _ _, rfl⟩
        go_simp
    · intro i hil
      exact absurd hil (by simp)
    · intro xs w1 hx hs KQ hKK
      have s0 : xs 0 = (.int .i64 pre.length) := hs 0 (by omega)
      have s1 : xs 1 = (.pointer (some ⟨h, 0, none⟩)) := hs 1 (by omega)
      have s2 : xs 2 = (.pointer (some ⟨h, 0, none⟩)) := hs 2 (by omega)
      have s3 : xs 3 = (.pointer (some ⟨h, 0, none⟩)) := hs 3 (by omega)
      have s4 : xs 4 = (.slice (some ⟨gr, 0, none⟩) l.length cm) := hs 4 (by omega)
      have s5 : xs 5 = (.int .i64 l.length) := hs 5 (by omega)
      have s6 : xs 6 = (.bool false) := hs 6 (by omega)
      have s7 : xs 7 = (.bool false) := hs 7 (by omega)
      have s8 : xs 8 = (.agg #[.int .u8 r.k.f0, .int .i64 r.k.f1, .string r.k.f2, .slice r.A r.k.f3.length r.ca, .int .i64 r.k.f4]) := hs 8 (by omega)
      have s9 : xs 9 = (.pointer (some ⟨h, 0, none⟩)) := hs 9 (by omega)
      have s10 : xs 10 = (.pointer (some ⟨h, 0, none⟩)) := hs 10 (by omega)
      have s11 : xs 11 = (.pointer (some ⟨h, 0, none⟩)) := hs 11 (by omega)
      have s12 : xs 12 = (.slice (some ⟨gr, 0, none⟩) l.length cm) := hs 12 (by omega)
      have s13 : xs 13 = (.int .i64 pre.length) := hs 13 (by omega)
      have s14 : xs 14 = (.pointer (some ⟨gr, pre.length * 10, none⟩)) := hs 14 (by omega)
      have s15 : xs 15 = (.pointer (some ⟨gr, pre.length * 10, none⟩)) := hs 15 (by omega)
      have s16 : xs 16 = (.agg #[.int .u8 p.k.f0, .int .i64 p.k.f1, .string p.k.f2, .slice p.A p.k.f3.length p.c, .int .i64 p.k.f4]) := hs 16 (by omega)
      have s17 : xs 17 = (.bool true) := hs 17 (by omega)
      have s18 : xs 18 = (.bool false) := hs 18 (by omega)
      have s19 : xs 19 = (.bool false) := hs 19 (by omega)
      have s20 : xs 20 = (.bool false) := hs 20 (by omega)
      have s21 : xs 21 = (.agg #[.int .u8 r.v.f0, .int .i64 r.v.f1, .string r.v.f2, .slice r.B r.v.f3.length r.cb, .int .i64 r.v.f4]) := hs 21 (by omega)
      have s22 : xs 22 = (.pointer (some ⟨h, 0, none⟩)) := hs 22 (by omega)
      have s23 : xs 23 = (.pointer (some ⟨h, 0, none⟩)) := hs 23 (by omega)
      have s24 : xs 24 = (.pointer (some ⟨h, 0, none⟩)) := hs 24 (by omega)
      have s25 : xs 25 = (.slice (some ⟨gr, 0, none⟩) l.length cm) := hs 25 (by omega)
      have s26 : xs 26 = (.int .i64 pre.length) := hs 26 (by omega)
      have s27 : xs 27 = (.pointer (some ⟨gr, pre.length * 10, none⟩)) := hs 27 (by omega)
      have s28 : xs 28 = (.pointer (some ⟨gr, pre.length * 10 + 5, none⟩)) := hs 28 (by omega)
      have s29 : xs 29 = (.agg #[.int .u8 p.v.f0, .int .i64 p.v.f1, .string p.v.f2, .slice p.B p.v.f3.length p.d, .int .i64 p.v.f4]) := hs 29 (by omega)
      have s30 : xs 30 = (.bool true) := hs 30 (by omega)
      have s31 : xs 31 = (.bool false) := hs 31 (by omega)
      have s32 : xs 32 = (.bool false) := hs 32 (by omega)
      clear hs
      simp only [putSlots, dstOf, List.getElem?_toArray, List.getElem?_cons_succ, List.getElem?_cons_zero, Option.bind_some, List.setIfInBounds_toArray, List.set_cons_zero, List.set_cons_succ, List.drop_succ_cons, List.drop_zero]
      rw [s0, s1, s2, s3, s4, s5, s6, s7, s8, s9, s10, s11, s12, s13, s14, s15, s16, s17, s18, s19, s20, s21, s22, s23, s24, s25, s26, s27, s28, s29, s30, s31, s32]
      clear s0 s1 s2 s3 s4 s5 s6 s7 s8 s9 s10 s11 s12 s13 s14 s15 s16 s17 s18 s19 s20 s21 s22 s23 s24 s25 s26 s27 s28 s29 s30 s31 s32
      refine hKK _ _ ?_
      have HX4 := Aside0.mk hx
      have k0 := (blk_cell (hx.blk HK2.out (fun h => h)) 0).trans rfl
      have k1 := (blk_cell (hx.blk HK2.out (fun h => h)) 1).trans rfl
      have k2 := (blk_cell (hx.blk HK2.out (fun h => h)) 2).trans rfl
      have k3 := (blk_cell (hx.blk HK2.out (fun h => h)) 3).trans rfl
      have k4 := (blk_cell (hx.blk HK2.out (fun h => h)) 4).trans rfl
      have kl := lt_of_blk (hx.blk HK2.out (fun h => h))
      clear hx hKK
      gi_wp2
      refine ⟨trivial, rfl, (CallsIn.inRound _ (callsIn_wide.2 (spoil_calls r.k lo _ (fun b => (lo ≤ b ∧ b < hi) ∧ b < W4.heap.size) W4 w1 _ _ _ _ _ HLO4.out.1 (fun _ h => h) (fun _ h => h.2) (Sp.grown HX4.out)))).mono ?_⟩
      rintro e wa ⟨⟨rv, rfl⟩, hs1⟩
      have HS1 := Aside0.mk ((Sp.grown HX4.out).trans hs1)
      have hva := HS1.out.1.blk HV2.out (fun e => by have := e.1; have := HHI.out; omega)
      have v0 := (blk_cell hva 0).trans rfl
      have v1 := (blk_cell hva 1).trans rfl
      have v2 := (blk_cell hva 2).trans rfl
      have v3 := (blk_cell hva 3).trans rfl
      have v4 := (blk_cell hva 4).trans rfl
      have vl := lt_of_blk hva
      clear hs1 hva k0 k1 k2 k3 k4 kl
      gi_wp2
      refine ⟨trivial, rfl, (CallsIn.inRound _ (callsIn_wide.2 (spoil_calls r.v lo _ (fun b => (lo ≤ b ∧ b < hi) ∧ b < W4.heap.size) W4 wa _ _ _ _ _ HLO4.out.2 (fun _ h => h) (fun _ h => h.2) HS1.out))).mono ?_⟩
      rintro e wb ⟨⟨rv2, rfl⟩, hs2⟩
      have HS2 := Aside0.mk (HS1.out.trans hs2)
      have HFAR := Aside0.mk (show ∀ b, b < w.heap.size + 7 → ¬ ((lo ≤ b ∧ b < hi) ∧ b < W4.heap.size) from fun b hb e => by have := HL.out.1; omega)
      have h8 := HS2.out.1.blk HB8.out (HFAR.out _ (by omega))
      have h5 := HS2.out.1.blk HB5.out (HFAR.out _ (by omega))
      have c8 := (blk_cell h8 0).trans rfl
      have f8 := blk_frozen h8 0
      have l8 := lt_of_blk h8
      have c5 := (blk_cell h5 0).trans rfl
      have l5 := lt_of_blk h5
      clear hs2 h8 h5 v0 v1 v2 v3 v4 vl
      have HWC := Aside0.mk (show Ex (fun b => b = w.heap.size + 1 + 1 + 1 + 1) wb (wb.setCell ⟨w.heap.size + 1 + 1 + 1 + 1, 0, none⟩ (.int .i64 ((pre.length + 1 : Nat) : Int))) from (Ex.refl (fun b => b = w.heap.size + 1 + 1 + 1 + 1) wb).set (p := ⟨w.heap.size + 1 + 1 + 1 + 1, 0, none⟩) (.inl rfl) _)
      have H8C := Aside0.mk (show (wb.setCell ⟨w.heap.size + 1 + 1 + 1 + 1, 0, none⟩ (.int .i64 ((pre.length + 1 : Nat) : Int))).heap[w.heap.size + 1 + 1 + 1 + 1]? = some (.cells #[.int .i64 ((pre.length + 1 : Nat) : Int)] 3 (0, 0)) from blk_put (HS2.out.1.blk HB8.out (HFAR.out _ (by omega))) 0 _ rfl)
      have HEND := Aside0.mk (fun (st : LoopState) (pe : Option Code) => WJ.made (n := n) (by rw [HSZ]) rfl (by omega) (HWC.out.blk (HS2.out.1.blk HRL.out (HFAR.out _ (by omega))) (by omega)) (HWC.out.blk (HS2.out.1.blk HRD.out (HFAR.out _ (by omega))) (by omega)) (HWC.out.blk (HS2.out.1.blk HB4.out (HFAR.out _ (by omega))) (by omega)) (HWC.out.blk (HS2.out.1.blk HB5.out (HFAR.out _ (by omega))) (by omega)) (HWC.out.blk (HS2.out.1.blk HB6.out (HFAR.out _ (by omega))) (by omega)) (HWC.out.blk (HS2.out.1.blk HB7.out (HFAR.out _ (by omega))) (by omega)) H8C.out ((HEX.out.trans HS2.out.1 (fun b hb => .inr (by have := hb.1; have := HL.out.1; omega))).trans HWC.out (fun b hb => .inr (by omega))) st pe)
      have HRLC := Aside0.mk (HWC.out.blk (HS2.out.1.blk HRL.out (HFAR.out _ (by omega))) (show ¬ w.heap.size + 5 + 1 = w.heap.size + 1 + 1 + 1 + 1 by omega))
      have HEXE := Aside0.mk (ex_putObj (l := w.heap.size + 5 + 1) ((HG4.out.trans HS2.out.1 (fun b hb => .inl (.inr hb.1))).trans HWC.out (fun b hb => .inl (.inl (by omega)))) (.inl (.inl (by omega))) (.loop (rec.at .ready none)))
      gi_wp2
      · exact ⟨HRLC.out, .inr ⟨rfl, HEND.out .done (some (.exit 0)), eq_of_beq (by assumption)⟩⟩
      · exact ⟨HRLC.out, .inl ⟨rfl, HEND.out .ready none, HEXE.out⟩⟩
  case hend =>
    rintro e W' ⟨hv, hends⟩
    obtain ⟨k, hkk, hrl', hrd', h4', h5', h6', h7', h8', hex'⟩ : ∃ k : Nat, (k = l.length ∨ (k : Int) = n) ∧ ((W'.heap[W0.heap.size + 1]? = some (.loop (rec.at .ready none))) ∨ W'.heap[W0.heap.size + 1]? = some (.loop (rec.at .done (some (.exit 0))))) ∧ W'.heap[W0.heap.size]? = some (.deferred (some [])) ∧ W'.heap[w.heap.size]? = some (.cells #[.pointer (some ⟨h, 0, none⟩)] 52 (0, 0)) ∧ W'.heap[w.heap.size + 1]? = some (.cells #[.int .i64 n] 3 (0, 0)) ∧ W'.heap[w.heap.size + 1 + 1]? = some (.cells #[.bool false] 4 (0, 0)) ∧ W'.heap[w.heap.size + 1 + 1 + 1]? = some (.cells #[.pointer (some ⟨g, 0, none⟩)] 39 (0, 0)) ∧ W'.heap[w.heap.size + 1 + 1 + 1 + 1]? = some (.cells #[.int .i64 k] 3 (0, 0)) ∧ Ex (fun _ => False) w W' := by
      rcases hends with ⟨xs, hs, j⟩ | ⟨pre, j, hn⟩
      · refine ⟨xs.length, .inl ?_, .inl j.rl, j.rd, j.b4, j.b5, j.b6, j.b7, j.b8, j.ex⟩
        have := congrArg List.length (HREL.out.sorted hs)
        simpa using this
      · exact ⟨pre.length, .inr hn, .inr j.rl, j.rd, j.b4, j.b5, j.b6, j.b7, j.b8, j.ex⟩
    refine ⟨hv, range_join hrl' ?_⟩
    clear hv hends
    intro pe5
    have hxp : Ex (fun b => b = W0.heap.size + 1) W' (W'.putObj (W0.heap.size + 1) (.loop (rec.at .exhausted pe5))) := ex_putObj (Ex.refl (fun b => b = W0.heap.size + 1) W') (.inl rfl) _
    have HC4 := Aside0.mk (hxp.blk h4' (by omega))
    have HC5 := Aside0.mk (hxp.blk h5' (by omega))
    have HC6 := Aside0.mk (hxp.blk h6' (by omega))
    have HC7 := Aside0.mk (hxp.blk h7' (by omega))
    have HC8 := Aside0.mk (hxp.blk h8' (by omega))
    have HCD := Aside0.mk (hxp.blk hrd' (by omega))
    have HCX := Aside0.mk (hex'.trans hxp (fun b hb => .inr (by omega)))
    generalize W'.putObj (W0.heap.size + 1) (.loop (rec.at .exhausted pe5)) = W5 at hxp HC4 HC5 HC6 HC7 HC8 HCD HCX ⊢
    have HD0 := Aside0.mk (show w.heap.size + 5 ≤ W0.heap.size by omega)
    have HKK := Aside0.mk hkk
    clear hxp hrl' hrd' h4' h5' h6' h7' h8' hex' hmid hl1 hl0 hsz1 hrt hrp hra hrb hrD HX0 B4 B5 B6 B7 B8 HSZ hkk
    clear W2 W'
    obtain ⟨M, cm, hu, hcm, hcells⟩ := own_pairs HR.out.own
    subst hu
    have HCL := Aside0.mk hcells
    clear hcells
    have hl0 : 0 ≤ (l.length : Int) := by omega
    go_wp2_with fail
    go_upto_region 14 with (fail)
    go_cut [73] from 62 to 73 (fun s73 wx => s73 = .bool false ∧ Aside0 (Ex (fun _ => False) W5 wx))
    case first =>
      by_cases hkn : (k : Int) = n
      · have hne : ((k : Int) != n) = false := by simp [hkn]
        have HNE := Aside0.mk hne
        clear hne hkn
        refine region_by 12 [] (specL [Is (.int .i64 k), Is (.int .i64 n), Is (.bool false), Is (.bool false), Is undef, Is undef, Is undef, Is undef, Is undef, Is undef, Is undef, Is (.bool false)]) (by decide) (by decide) (by kernel_rfl) (by kernel_rfl) (stab_all (stab_cons (stab_is _) (stab_cons (stab_is _) (stab_cons (stab_is _) (stab_cons (stab_is _) (stab_cons (stab_is _) (stab_cons (stab_is _) (stab_cons (stab_is _) (stab_cons (stab_is _) (stab_cons (stab_is _) (stab_cons (stab_is _) (stab_cons (stab_is _) (stab_cons (stab_is _) (stab_nil)))))))))))))) ?_ ?_ ?_
        · intro i hi hnl
          obtain rfl | rfl | rfl | rfl | rfl | rfl | rfl | rfl | rfl | rfl | rfl | rfl : i = 0 ∨ i = 1 ∨ i = 2 ∨ i = 3 ∨ i = 4 ∨ i = 5 ∨ i = 6 ∨ i = 7 ∨ i = 8 ∨ i = 9 ∨ i = 10 ∨ i = 11 := by omega
          · intro o ho ρ yl w1 hx hc hf hgl hp hb
            simp only [List.getElem?_toArray, List.getElem?_cons_succ, List.getElem?_cons_zero, Option.some.injEq] at ho
            subst ho
            have hx := ((Ex.refl (fun _ => False) W5).drew).trans hx (fun _ h => h.elim)
            have b8 := hb 8 (by kernel_rfl)
            clear hp hb
            have hb := hx.blk HC8.out (fun h => h)
            have c0 := (blk_cell hb 0).trans rfl
            have cl := lt_of_blk hb
            refine wantL rfl ⟨.int .i64 k, w1, ?_, Ex.refl _ _, rfl⟩
            go_simp
          · intro o ho ρ yl w1 hx hc hf hgl hp hb
            simp only [List.getElem?_toArray, List.getElem?_cons_succ, List.getElem?_cons_zero, Option.some.injEq] at ho
            subst ho
            have hx := ((Ex.refl (fun _ => False) W5).drew).trans hx (fun _ h => h.elim)
            have b5 := hb 5 (by kernel_rfl)
            clear hp hb
            have hb := hx.blk HC5.out (fun h => h)
            have c0 := (blk_cell hb 0).trans rfl
            have cl := lt_of_blk hb
            refine wantL rfl ⟨.int .i64 n, w1, ?_, Ex.refl _ _, rfl⟩
            go_simp
          · intro o ho ρ yl w1 hx hc hf hgl hp hb
            simp only [List.getElem?_toArray, List.getElem?_cons_succ, List.getElem?_cons_zero, Option.some.injEq] at ho
            subst ho
            have hx := ((Ex.refl (fun _ => False) W5).drew).trans hx (fun _ h => h.elim)
            obtain ⟨v0, s0, e0, y0⟩ := hp 0 (by kernel_rfl)
            have e0 := e0 62 rfl
            obtain rfl : v0 = (.int .i64 k) := s0
            clear y0
            obtain ⟨v1, s1, e1, y1⟩ := hp 1 (by kernel_rfl)
            have e1 := e1 63 rfl
            obtain rfl : v1 = (.int .i64 n) := s1
            clear y1
            clear hp hb
            have hne := HNE.out
            refine wantL rfl ⟨.bool false, w1, ?_, Ex.refl _ _, rfl⟩
            go_simp
          · intro o ho ρ yl w1 hx hc hf hgl hp hb
            simp only [List.getElem?_toArray, List.getElem?_cons_succ, List.getElem?_cons_zero, Option.some.injEq] at ho
            subst ho
            have hx := ((Ex.refl (fun _ => False) W5).drew).trans hx (fun _ h => h.elim)
            obtain ⟨v2, s2, e2, y2⟩ := hp 2 (by kernel_rfl)
            have e2 := e2 64 rfl
            obtain rfl : v2 = (.bool false) := s2
            clear y2
            clear hp hb
            refine wantL rfl ⟨.bool false, w1, ?_, Ex.refl _ _, rfl⟩
            go_simp
          · intro o ho ρ yl w1 hx hc hf hgl hp hb
            simp only [List.getElem?_toArray, List.getElem?_cons_succ, List.getElem?_cons_zero, Option.some.injEq] at ho
            subst ho
            have hx := ((Ex.refl (fun _ => False) W5).drew).trans hx (fun _ h => h.elim)
            obtain ⟨v3, s3, e3, y3⟩ := hp 3 (by kernel_rfl)
            have e3 := e3 65 rfl
            obtain rfl : v3 = (.bool false) := s3
            have y3 := y3 rfl
            have b8 := hb 8 (by kernel_rfl)
            clear hp hb
            refine unwant (by simp [Region.wanted, y3]) ?_
            exact rfl
          · intro o ho ρ yl w1 hx hc hf hgl hp hb
            simp only [List.getElem?_toArray, List.getElem?_cons_succ, List.getElem?_cons_zero, Option.some.injEq] at ho
            subst ho
            have hx := ((Ex.refl (fun _ => False) W5).drew).trans hx (fun _ h => h.elim)
            obtain ⟨v3, s3, e3, y3⟩ := hp 3 (by kernel_rfl)
            have e3 := e3 65 rfl
            obtain rfl : v3 = (.bool false) := s3
            have y3 := y3 rfl
            have b4 := hb 4 (by kernel_rfl)
            clear hp hb
            refine unwant (by simp [Region.wanted, y3]) ?_
            exact rfl
          · intro o ho ρ yl w1 hx hc hf hgl hp hb
            simp only [List.getElem?_toArray, List.getElem?_cons_succ, List.getElem?_cons_zero, Option.some.injEq] at ho
            subst ho
            have hx := ((Ex.refl (fun _ => False) W5).drew).trans hx (fun _ h => h.elim)
            obtain ⟨v5, s5, e5, y5⟩ := hp 5 (by kernel_rfl)
            have e5 := e5 67 rfl
            obtain rfl : v5 = undef := s5
            clear y5
            obtain ⟨v3, s3, e3, y3⟩ := hp 3 (by kernel_rfl)
            have e3 := e3 65 rfl
            obtain rfl : v3 = (.bool false) := s3
            have y3 := y3 rfl
            clear hp hb
            refine unwant (by simp [Region.wanted, y3]) ?_
            exact rfl
          · intro o ho ρ yl w1 hx hc hf hgl hp hb
            simp only [List.getElem?_toArray, List.getElem?_cons_succ, List.getElem?_cons_zero, Option.some.injEq] at ho
            subst ho
            have hx := ((Ex.refl (fun _ => False) W5).drew).trans hx (fun _ h => h.elim)
            obtain ⟨v6, s6, e6, y6⟩ := hp 6 (by kernel_rfl)
            have e6 := e6 68 rfl
            obtain rfl : v6 = undef := s6
            clear y6
            obtain ⟨v3, s3, e3, y3⟩ := hp 3 (by kernel_rfl)
            have e3 := e3 65 rfl
            obtain rfl : v3 = (.bool false) := s3
            have y3 := y3 rfl
            clear hp hb
            refine unwant (by simp [Region.wanted, y3]) ?_
            exact rfl
          · intro o ho ρ yl w1 hx hc hf hgl hp hb
            simp only [List.getElem?_toArray, List.getElem?_cons_succ, List.getElem?_cons_zero, Option.some.injEq] at ho
            subst ho
            have hx := ((Ex.refl (fun _ => False) W5).drew).trans hx (fun _ h => h.elim)
            obtain ⟨v7, s7, e7, y7⟩ := hp 7 (by kernel_rfl)
            have e7 := e7 69 rfl
            obtain rfl : v7 = undef := s7
            clear y7
            obtain ⟨v3, s3, e3, y3⟩ := hp 3 (by kernel_rfl)
            have e3 := e3 65 rfl
            obtain rfl : v3 = (.bool false) := s3
            have y3 := y3 rfl
            clear hp hb
            refine unwant (by simp [Region.wanted, y3]) ?_
            exact rfl
          · intro o ho ρ yl w1 hx hc hf hgl hp hb
            simp only [List.getElem?_toArray, List.getElem?_cons_succ, List.getElem?_cons_zero, Option.some.injEq] at ho
            subst ho
            have hx := ((Ex.refl (fun _ => False) W5).drew).trans hx (fun _ h => h.elim)
            obtain ⟨v8, s8, e8, y8⟩ := hp 8 (by kernel_rfl)
            have e8 := e8 70 rfl
            obtain rfl : v8 = undef := s8
            clear y8
            obtain ⟨v3, s3, e3, y3⟩ := hp 3 (by kernel_rfl)
            have e3 := e3 65 rfl
            obtain rfl : v3 = (.bool false) := s3
            have y3 := y3 rfl
            clear hp hb
            refine unwant (by simp [Region.wanted, y3]) ?_
            exact rfl
          · intro o ho ρ yl w1 hx hc hf hgl hp hb
            simp only [List.getElem?_toArray, List.getElem?_cons_succ, List.getElem?_cons_zero, Option.some.injEq] at ho
            subst ho
            have hx := ((Ex.refl (fun _ => False) W5).drew).trans hx (fun _ h => h.elim)
            obtain ⟨v4, s4, e4, y4⟩ := hp 4 (by kernel_rfl)
            have e4 := e4 66 rfl
            obtain rfl : v4 = undef := s4
            clear y4
            obtain ⟨v9, s9, e9, y9⟩ := hp 9 (by kernel_rfl)
            have e9 := e9 71 rfl
            obtain rfl : v9 = undef := s9
            clear y9
            obtain ⟨v3, s3, e3, y3⟩ := hp 3 (by kernel_rfl)
            have e3 := e3 65 rfl
            obtain rfl : v3 = (.bool false) := s3
            have y3 := y3 rfl
            clear hp hb
            refine unwant (by simp [Region.wanted, y3]) ?_
            exact rfl
          · intro o ho ρ yl w1 hx hc hf hgl hp hb
            simp only [List.getElem?_toArray, List.getElem?_cons_succ, List.getElem?_cons_zero, Option.some.injEq] at ho
            subst ho
            have hx := ((Ex.refl (fun _ => False) W5).drew).trans hx (fun _ h => h.elim)
            obtain ⟨v3, s3, e3, y3⟩ := hp 3 (by kernel_rfl)
            have e3 := e3 65 rfl
            obtain rfl : v3 = (.bool false) := s3
            clear y3
            obtain ⟨v10, s10, e10, y10⟩ := hp 10 (by kernel_rfl)
            have e10 := e10 72 rfl
            obtain rfl : v10 = undef := s10
            clear y10
            clear hp hb
            refine wantL rfl ⟨.bool false, w1, ?_, Ex.refl _ _, rfl⟩
            go_simp
        · intro i hil
          exact absurd hil (by simp)
        · intro xs w1 hx hs KQ hKK
          have s0 : xs 0 = (.int .i64 k) := hs 0 (by omega)
          have s1 : xs 1 = (.int .i64 n) := hs 1 (by omega)
          have s2 : xs 2 = (.bool false) := hs 2 (by omega)
          have s3 : xs 3 = (.bool false) := hs 3 (by omega)
          have s4 : xs 4 = undef := hs 4 (by omega)
          have s5 : xs 5 = undef := hs 5 (by omega)
          have s6 : xs 6 = undef := hs 6 (by omega)
          have s7 : xs 7 = undef := hs 7 (by omega)
          have s8 : xs 8 = undef := hs 8 (by omega)
          have s9 : xs 9 = undef := hs 9 (by omega)
          have s10 : xs 10 = undef := hs 10 (by omega)
          have s11 : xs 11 = (.bool false) := hs 11 (by omega)
          clear hs
          simp only [putSlots, dstOf, List.getElem?_toArray, List.getElem?_cons_succ, List.getElem?_cons_zero, Option.bind_some, List.setIfInBounds_toArray, List.set_cons_zero, List.set_cons_succ, List.drop_succ_cons, List.drop_zero]
          rw [s0, s1, s2, s3, s4, s5, s6, s7, s8, s9, s10, s11]
          clear s0 s1 s2 s3 s4 s5 s6 s7 s8 s9 s10 s11
          refine hKK _ _ ?_
          have HX6 := Aside0.mk hx
          clear hx hKK HNE
          go_wp2_with fail
          go_meet
          exact ⟨rfl, HX6⟩
      · have hne : ((k : Int) != n) = true := by simp [hkn]
        have HNE := Aside0.mk hne
        have HKL := Aside0.mk (show k = l.length from HKK.out.resolve_right hkn)
        clear hne hkn
        refine region_by 12 [] (specL [Is (.int .i64 k), Is (.int .i64 n), Is (.bool true), Is (.bool true), Is (.int .i64 k), Is (.pointer (some ⟨h, 0, none⟩)), Is (.pointer (some ⟨h, 0, none⟩)), Is (.pointer (some ⟨h, 0, none⟩)), Is (.slice M l.length cm), Is (.int .i64 l.length), Is (.bool false), Is (.bool false)]) (by decide) (by decide) (by kernel_rfl) (by kernel_rfl) (stab_all (stab_cons (stab_is _) (stab_cons (stab_is _) (stab_cons (stab_is _) (stab_cons (stab_is _) (stab_cons (stab_is _) (stab_cons (stab_is _) (stab_cons (stab_is _) (stab_cons (stab_is _) (stab_cons (stab_is _) (stab_cons (stab_is _) (stab_cons (stab_is _) (stab_cons (stab_is _) (stab_nil)))))))))))))) ?_ ?_ ?_
        · intro i hi hnl
          obtain rfl | rfl | rfl | rfl | rfl | rfl | rfl | rfl | rfl | rfl | rfl | rfl : i = 0 ∨ i = 1 ∨ i = 2 ∨ i = 3 ∨ i = 4 ∨ i = 5 ∨ i = 6 ∨ i = 7 ∨ i = 8 ∨ i = 9 ∨ i = 10 ∨ i = 11 := by omega
          · intro o ho ρ yl w1 hx hc hf hgl hp hb
            simp only [List.getElem?_toArray, List.getElem?_cons_succ, List.getElem?_cons_zero, Option.some.injEq] at ho
            subst ho
            have hx := ((Ex.refl (fun _ => False) W5).drew).trans hx (fun _ h => h.elim)
            have b8 := hb 8 (by kernel_rfl)
            clear hp hb
            have hb := hx.blk HC8.out (fun h => h)
            have c0 := (blk_cell hb 0).trans rfl
            have cl := lt_of_blk hb
            refine wantL rfl ⟨.int .i64 k, w1, ?_, Ex.refl _ _, rfl⟩
            go_simp
          · intro o ho ρ yl w1 hx hc hf hgl hp hb
            simp only [List.getElem?_toArray, List.getElem?_cons_succ, List.getElem?_cons_zero, Option.some.injEq] at ho
            subst ho
            have hx := ((Ex.refl (fun _ => False) W5).drew).trans hx (fun _ h => h.elim)
            have b5 := hb 5 (by kernel_rfl)
            clear hp hb
            have hb := hx.blk HC5.out (fun h => h)
            have c0 := (blk_cell hb 0).trans rfl
            have cl := lt_of_blk hb
            refine wantL rfl ⟨.int .i64 n, w1, ?_, Ex.refl _ _, rfl⟩
            go_simp
          · intro o ho ρ yl w1 hx hc hf hgl hp hb
            simp only [List.getElem?_toArray, List.getElem?_cons_succ, List.getElem?_cons_zero, Option.some.injEq] at ho
            subst ho
            have hx := ((Ex.refl (fun _ => False) W5).drew).trans hx (fun _ h => h.elim)
            obtain ⟨v0, s0, e0, y0⟩ := hp 0 (by kernel_rfl)
            have e0 := e0 62 rfl
            obtain rfl : v0 = (.int .i64 k) := s0
            clear y0
            obtain ⟨v1, s1, e1, y1⟩ := hp 1 (by kernel_rfl)
            have e1 := e1 63 rfl
            obtain rfl : v1 = (.int .i64 n) := s1
            clear y1
            clear hp hb
            have hne := HNE.out
            refine wantL rfl ⟨.bool true, w1, ?_, Ex.refl _ _, rfl⟩
            go_simp
          · intro o ho ρ yl w1 hx hc hf hgl hp hb
            simp only [List.getElem?_toArray, List.getElem?_cons_succ, List.getElem?_cons_zero, Option.some.injEq] at ho
            subst ho
            have hx := ((Ex.refl (fun _ => False) W5).drew).trans hx (fun _ h => h.elim)
            obtain ⟨v2, s2, e2, y2⟩ := hp 2 (by kernel_rfl)
            have e2 := e2 64 rfl
            obtain rfl : v2 = (.bool true) := s2
            clear y2
            clear hp hb
            refine wantL rfl ⟨.bool true, w1, ?_, Ex.refl _ _, rfl⟩
            go_simp
          · intro o ho ρ yl w1 hx hc hf hgl hp hb
            simp only [List.getElem?_toArray, List.getElem?_cons_succ, List.getElem?_cons_zero, Option.some.injEq] at ho
            subst ho
            have hx := ((Ex.refl (fun _ => False) W5).drew).trans hx (fun _ h => h.elim)
            obtain ⟨v3, s3, e3, y3⟩ := hp 3 (by kernel_rfl)
            have e3 := e3 65 rfl
            obtain rfl : v3 = (.bool true) := s3
            have y3 := y3 rfl
            have b8 := hb 8 (by kernel_rfl)
            clear hp hb
            have hb := hx.blk HC8.out (fun h => h)
            have c0 := (blk_cell hb 0).trans rfl
            have cl := lt_of_blk hb
            refine wantL (by simp [Region.wanted, y3]) ⟨.int .i64 k, w1, ?_, Ex.refl _ _, rfl⟩
            go_simp
          · intro o ho ρ yl w1 hx hc hf hgl hp hb
            simp only [List.getElem?_toArray, List.getElem?_cons_succ, List.getElem?_cons_zero, Option.some.injEq] at ho
            subst ho
            have hx := ((Ex.refl (fun _ => False) W5).drew).trans hx (fun _ h => h.elim)
            obtain ⟨v3, s3, e3, y3⟩ := hp 3 (by kernel_rfl)
            have e3 := e3 65 rfl
            obtain rfl : v3 = (.bool true) := s3
            have y3 := y3 rfl
            have b4 := hb 4 (by kernel_rfl)
            clear hp hb
            have hb := hx.blk HC4.out (fun h => h)
            have c0 := (blk_cell hb 0).trans rfl
            have cl := lt_of_blk hb
            refine wantL (by simp [Region.wanted, y3]) ⟨.pointer (some ⟨h, 0, none⟩), w1, ?_, Ex.refl _ _, rfl⟩
            go_simp
          · intro o ho ρ yl w1 hx hc hf hgl hp hb
            simp only [List.getElem?_toArray, List.getElem?_cons_succ, List.getElem?_cons_zero, Option.some.injEq] at ho
            subst ho
            have hx := ((Ex.refl (fun _ => False) W5).drew).trans hx (fun _ h => h.elim)
            obtain ⟨v5, s5, e5, y5⟩ := hp 5 (by kernel_rfl)
            have e5 := e5 67 rfl
            obtain rfl : v5 = (.pointer (some ⟨h, 0, none⟩)) := s5
            clear y5
            obtain ⟨v3, s3, e3, y3⟩ := hp 3 (by kernel_rfl)
            have e3 := e3 65 rfl
            obtain rfl : v3 = (.bool true) := s3
            have y3 := y3 rfl
            clear hp hb
            have hh := (HCX.out.trans hx (fun _ h => h.elim)).blk HR.out.hh (fun h => h)
            have c0 := (blk_cell hh 0).trans rfl
            have hhl := lt_of_blk hh
            refine wantL (by simp [Region.wanted, y3]) ⟨.pointer (some ⟨h, 0, none⟩), w1, ?_, Ex.refl _ _, rfl⟩
            go_simp
          · intro o ho ρ yl w1 hx hc hf hgl hp hb
            simp only [List.getElem?_toArray, List.getElem?_cons_succ, List.getElem?_cons_zero, Option.some.injEq] at ho
            subst ho
            have hx := ((Ex.refl (fun _ => False) W5).drew).trans hx (fun _ h => h.elim)
            obtain ⟨v6, s6, e6, y6⟩ := hp 6 (by kernel_rfl)
            have e6 := e6 68 rfl
            obtain rfl : v6 = (.pointer (some ⟨h, 0, none⟩)) := s6
            clear y6
            obtain ⟨v3, s3, e3, y3⟩ := hp 3 (by kernel_rfl)
            have e3 := e3 65 rfl
            obtain rfl : v3 = (.bool true) := s3
            have y3 := y3 rfl
            clear hp hb
            have hh := (HCX.out.trans hx (fun _ h => h.elim)).blk HR.out.hh (fun h => h)
            have c0 := (blk_cell hh 0).trans rfl
            have hhl := lt_of_blk hh
            refine wantL (by simp [Region.wanted, y3]) ⟨.pointer (some ⟨h, 0, none⟩), w1, ?_, Ex.refl _ _, rfl⟩
            go_simp
          · intro o ho ρ yl w1 hx hc hf hgl hp hb
            simp only [List.getElem?_toArray, List.getElem?_cons_succ, List.getElem?_cons_zero, Option.some.injEq] at ho
            subst ho
            have hx := ((Ex.refl (fun _ => False) W5).drew).trans hx (fun _ h => h.elim)
            obtain ⟨v7, s7, e7, y7⟩ := hp 7 (by kernel_rfl)
            have e7 := e7 69 rfl
            obtain rfl : v7 = (.pointer (some ⟨h, 0, none⟩)) := s7
            clear y7
            obtain ⟨v3, s3, e3, y3⟩ := hp 3 (by kernel_rfl)
            have e3 := e3 65 rfl
            obtain rfl : v3 = (.bool true) := s3
            have y3 := y3 rfl
            clear hp hb
            have hh := (HCX.out.trans hx (fun _ h => h.elim)).blk HR.out.hh (fun h => h)
            have c0 := (blk_cell hh 0).trans rfl
            have hhl := lt_of_blk hh
            refine wantL (by simp [Region.wanted, y3]) ⟨.slice M l.length cm, w1, ?_, Ex.refl _ _, rfl⟩
            go_simp
          · intro o ho ρ yl w1 hx hc hf hgl hp hb
            simp only [List.getElem?_toArray, List.getElem?_cons_succ, List.getElem?_cons_zero, Option.some.injEq] at ho
            subst ho
            have hx := ((Ex.refl (fun _ => False) W5).drew).trans hx (fun _ h => h.elim)
            obtain ⟨v8, s8, e8, y8⟩ := hp 8 (by kernel_rfl)
            have e8 := e8 70 rfl
            obtain rfl : v8 = (.slice M l.length cm) := s8
            clear y8
            obtain ⟨v3, s3, e3, y3⟩ := hp 3 (by kernel_rfl)
            have e3 := e3 65 rfl
            obtain rfl : v3 = (.bool true) := s3
            have y3 := y3 rfl
            clear hp hb
            refine wantL (by simp [Region.wanted, y3]) ⟨.int .i64 l.length, w1, ?_, Ex.refl _ _, rfl⟩
            go_simp
          · intro o ho ρ yl w1 hx hc hf hgl hp hb
            simp only [List.getElem?_toArray, List.getElem?_cons_succ, List.getElem?_cons_zero, Option.some.injEq] at ho
            subst ho
            have hx := ((Ex.refl (fun _ => False) W5).drew).trans hx (fun _ h => h.elim)
            obtain ⟨v4, s4, e4, y4⟩ := hp 4 (by kernel_rfl)
            have e4 := e4 66 rfl
            obtain rfl : v4 = (.int .i64 k) := s4
            clear y4
            obtain ⟨v9, s9, e9, y9⟩ := hp 9 (by kernel_rfl)
            have e9 := e9 71 rfl
            obtain rfl : v9 = (.int .i64 l.length) := s9
            clear y9
            obtain ⟨v3, s3, e3, y3⟩ := hp 3 (by kernel_rfl)
            have e3 := e3 65 rfl
            obtain rfl : v3 = (.bool true) := s3
            have y3 := y3 rfl
            clear hp hb
            have hkl := HKL.out
            subst hkl
            refine wantL (by simp [Region.wanted, y3]) ⟨.bool false, w1, ?_, Ex.refl _ _, rfl⟩
            go_simp
          · intro o ho ρ yl w1 hx hc hf hgl hp hb
            simp only [List.getElem?_toArray, List.getElem?_cons_succ, List.getElem?_cons_zero, Option.some.injEq] at ho
            subst ho
            have hx := ((Ex.refl (fun _ => False) W5).drew).trans hx (fun _ h => h.elim)
            obtain ⟨v3, s3, e3, y3⟩ := hp 3 (by kernel_rfl)
            have e3 := e3 65 rfl
            obtain rfl : v3 = (.bool true) := s3
            clear y3
            obtain ⟨v10, s10, e10, y10⟩ := hp 10 (by kernel_rfl)
            have e10 := e10 72 rfl
            obtain rfl : v10 = (.bool false) := s10
            clear y10
            clear hp hb
            refine wantL rfl ⟨.bool false, w1, ?_, Ex.refl _ _, rfl⟩
            go_simp
        · intro i hil
          exact absurd hil (by simp)
        · intro xs w1 hx hs KQ hKK
          have s0 : xs 0 = (.int .i64 k) := hs 0 (by omega)
          have s1 : xs 1 = (.int .i64 n) := hs 1 (by omega)
          have s2 : xs 2 = (.bool true) := hs 2 (by omega)
          have s3 : xs 3 = (.bool true) := hs 3 (by omega)
          have s4 : xs 4 = (.int .i64 k) := hs 4 (by omega)
          have s5 : xs 5 = (.pointer (some ⟨h, 0, none⟩)) := hs 5 (by omega)
          have s6 : xs 6 = (.pointer (some ⟨h, 0, none⟩)) := hs 6 (by omega)
          have s7 : xs 7 = (.pointer (some ⟨h, 0, none⟩)) := hs 7 (by omega)
          have s8 : xs 8 = (.slice M l.length cm) := hs 8 (by omega)
          have s9 : xs 9 = (.int .i64 l.length) := hs 9 (by omega)
          have s10 : xs 10 = (.bool false) := hs 10 (by omega)
          have s11 : xs 11 = (.bool false) := hs 11 (by omega)
          clear hs
          simp only [putSlots, dstOf, List.getElem?_toArray, List.getElem?_cons_succ, List.getElem?_cons_zero, Option.bind_some, List.setIfInBounds_toArray, List.set_cons_zero, List.set_cons_succ, List.drop_succ_cons, List.drop_zero]
          rw [s0, s1, s2, s3, s4, s5, s6, s7, s8, s9, s10, s11]
          clear s0 s1 s2 s3 s4 s5 s6 s7 s8 s9 s10 s11
          refine hKK _ _ ?_
          have HX6 := Aside0.mk hx
          clear hx hKK HNE
          go_wp2_with fail
          go_meet
          exact ⟨rfl, HX6⟩
    case rest =>
      obtain ⟨rfl, HX6⟩ := hcut
      obtain ⟨W6, rfl⟩ : ∃ W6, W6 = wc := ⟨_, rfl⟩
      clear HKK
      have b8 := HX6.out.blk HC8.out (fun h => h)
      have c8 := (blk_cell b8 0).trans rfl
      have f8 := blk_frozen b8 0
      have l8 := lt_of_blk b8
      go_wp2_with fail
      have hxs : Ex (fun b => b = w.heap.size + 1 + 1 + 1 + 1) W6 (W6.setCell ⟨w.heap.size + 1 + 1 + 1 + 1, 0, none⟩ (.int .i64 0)) := (Ex.refl (fun b => b = w.heap.size + 1 + 1 + 1 + 1) W6).set (p := ⟨w.heap.size + 1 + 1 + 1 + 1, 0, none⟩) (.inl rfl) _
      have HE4 := Aside0.mk (hxs.blk (HX6.out.blk HC4.out (fun h => h)) (by omega))
      have HE5 := Aside0.mk (hxs.blk (HX6.out.blk HC5.out (fun h => h)) (by omega))
      have HE6 := Aside0.mk (hxs.blk (HX6.out.blk HC6.out (fun h => h)) (by omega))
      have HE7 := Aside0.mk (hxs.blk (HX6.out.blk HC7.out (fun h => h)) (by omega))
      have HE8 := Aside0.mk (show (W6.setCell ⟨w.heap.size + 1 + 1 + 1 + 1, 0, none⟩ (.int .i64 0)).heap[w.heap.size + 1 + 1 + 1 + 1]? = some (.cells #[.int .i64 ((0 : Nat) : Int)] 3 (0, 0)) from blk_put b8 0 _ rfl)
      have HED := Aside0.mk (hxs.blk (HX6.out.blk HCD.out (fun h => h)) (by have := HD0.out; omega))
      have HEXX := Aside0.mk ((HCX.out.trans HX6.out (fun _ h => h.elim)).trans hxs (fun b hb => .inr (by omega)))
      have HS0 := Aside0.mk (show W0.heap.size < W6.heap.size from lt_of_blk (HX6.out.blk HCD.out (fun h => h)))
      have hs7 := Nat.lt_of_lt_of_le HS0.out hxs.size
      generalize W6.setCell ⟨w.heap.size + 1 + 1 + 1 + 1, 0, none⟩ (.int .i64 0) = W7 at hxs hs7 HE4 HE5 HE6 HE7 HE8 HED HEXX ⊢
      clear hxs HS0 b8 c8 f8 l8 HC4 HC5 HC6 HC7 HC8 HCD HCX HX6
      clear W6 W5
      refine wp_range (gf := 48) (lb := #[.pointer (some ⟨w.heap.size + 1 + 1 + 1, 0, none⟩)]) rfl (fun args w => enters_ Try.func48 (by kernel_rfl) rfl args w) ?_
      intro rec2 hrt hrp hra hrb hrD
      have hmid : Ex (fun _ => False) W7 ((W7.alloc (.deferred (some []))).alloc (.loop (rec2.at .ready none))) := ((Ex.refl _ _).alloc _).alloc _
      have hl1 : ((W7.alloc (.deferred (some []))).alloc (.loop (rec2.at .ready none))).heap[W7.heap.size + 1]? = some (.loop (rec2.at .ready none)) := blk_new2 W7 _ _
      have hl0 : ((W7.alloc (.deferred (some []))).alloc (.loop (rec2.at .ready none))).heap[W7.heap.size]? = some (.deferred (some [])) := blk_alloc (blk_new1 W7 _) _
      have hsz1 : ((W7.alloc (.deferred (some []))).alloc (.loop (rec2.at .ready none))).heap.size = W7.heap.size + 2 := by simp
      generalize (W7.alloc (.deferred (some []))).alloc (.loop (rec2.at .ready none)) = W8 at hmid hl1 hl0 hsz1 ⊢
      refine (iter_calls (W7.heap.size + 1) (w.heap.size + 1 + 1 + 1) g mb ob 0 T rows came hc (fun pre W => WJ w W7 g h n .ready none rec2 pre.length W ∧ W.heap[W0.heap.size]? = some (.deferred (some []))) (fun _ _ => False) _ (hmid.blk HE7.out (fun h => h)) (HT.out.ex0 (HEXX.out.trans hmid (fun _ h => h.elim))) (fun pre W W' j hx => ⟨j.1.grow hx, hx.blk j.2 (fun h => h)⟩) ?hY2 ?h02).mono ?hend2
      case h02 => exact ⟨⟨hl1, hl0, hmid.blk HE4.out (fun h => h), hmid.blk HE5.out (fun h => h), hmid.blk HE6.out (fun h => h), hmid.blk HE7.out (fun h => h), hmid.blk HE8.out (fun h => h), HEXX.out.trans hmid (fun _ h => h.elim)⟩, hmid.blk HED.out (fun h => h)⟩
      case hY2 =>
        intro pre r W1 lo hi hJ hlo hlone hhi hlk hlv ⟨suf, hsort⟩
        obtain ⟨hJ, hJD⟩ := hJ
        have hkv := HREL.out.sorted hsort
        refine yield_at hJ.rl (by rw [hrp]; rfl) ?_
        rw [hra, hrb, hrp, hrt]
        have HJ := Aside0.mk hJ
        have HJD := Aside0.mk hJD
        have HL := Aside0.mk (And.intro (hsz1 ▸ hlo) (And.intro hlone (And.intro hlk hlv)))
        have HKV := Aside0.mk hkv
        have HHI := Aside0.mk hhi
        have HSZ8 := Aside0.mk hsz1
        have HD0' := HD0.out
        clear hJ hJD hlo hlone hhi hlk hlv hkv hmid hl1 hl0 hsz1 hrt hrp hra hrb hrD
        gi_wp2
        have hg : Ex (fun _ => False) W1 ((W1.alloc (.cells #[.int .u8 r.k.f0, .int .i64 r.k.f1, .string r.k.f2, .slice r.A r.k.f3.length r.ca, .int .i64 r.k.f4] 27)).alloc (.cells #[.int .u8 r.v.f0, .int .i64 r.v.f1, .string r.v.f2, .slice r.B r.v.f3.length r.cb, .int .i64 r.v.f4] 27)) := ((Ex.refl _ _).alloc _).alloc _
        have hj2 := HJ.out.grow hg
        have hjd := hg.blk HJD.out (fun h => h)
        have hk2 := blk_alloc (blk_new1 W1 (.cells #[.int .u8 r.k.f0, .int .i64 r.k.f1, .string r.k.f2, .slice r.A r.k.f3.length r.ca, .int .i64 r.k.f4] 27)) (.cells #[.int .u8 r.v.f0, .int .i64 r.v.f1, .string r.v.f2, .slice r.B r.v.f3.length r.cb, .int .i64 r.v.f4] 27)
        have hv2 := blk_new2 W1 (.cells #[.int .u8 r.k.f0, .int .i64 r.k.f1, .string r.k.f2, .slice r.A r.k.f3.length r.ca, .int .i64 r.k.f4] 27) (.cells #[.int .u8 r.v.f0, .int .i64 r.v.f1, .string r.v.f2, .slice r.B r.v.f3.length r.cb, .int .i64 r.v.f4] 27)
        have hlw : W7.heap.size + 1 < W1.heap.size := lt_of_blk HJ.out.rl
        refine ⟨hj2.rl, ?_⟩
        generalize (W1.alloc (.cells #[.int .u8 r.k.f0, .int .i64 r.k.f1, .string r.k.f2, .slice r.A r.k.f3.length r.ca, .int .i64 r.k.f4] 27)).alloc (.cells #[.int .u8 r.v.f0, .int .i64 r.v.f1, .string r.v.f2, .slice r.B r.v.f3.length r.cb, .int .i64 r.v.f4] 27) = W3 at hg hj2 hjd hk2 hv2 ⊢
        have hxp : Ex (fun b => b = W7.heap.size + 1) W3 (W3.putObj (W7.heap.size + 1) (.loop (rec2.at .busy none))) := ex_putObj (Ex.refl (fun b => b = W7.heap.size + 1) W3) (.inl rfl) _
        gi_wp2
        have HEX := Aside0.mk (show Ex (fun _ => False) w (W3.putObj (W7.heap.size + 1) (.loop (rec2.at .busy none))) from (hj2.ex.trans hxp (fun b hb => .inr (by omega))))
        have HB4 := Aside0.mk (hxp.blk hj2.b4 (by omega))
        have HB5 := Aside0.mk (hxp.blk hj2.b5 (by omega))
        have HB6 := Aside0.mk (hxp.blk hj2.b6 (by omega))
        have HB7 := Aside0.mk (hxp.blk hj2.b7 (by omega))
        have HB8 := Aside0.mk (hxp.blk hj2.b8 (by omega))
        have HG4 := Aside0.mk ((hg.mono (S2 := fun b => b < W8.heap.size ∨ (lo ≤ b ∧ b < hi)) (fun _ h => h.elim)).trans hxp (fun b hb => .inl (.inl (by have := HSZ8.out; omega))))
        have HRD := Aside0.mk (hxp.blk hj2.rd (by omega))
        have HJD4 := Aside0.mk (hxp.blk hjd (by omega))
        have HRL := Aside0.mk (show (W3.putObj (W7.heap.size + 1) (.loop (rec2.at .busy none))).heap[W7.heap.size + 1]? = some (.loop (rec2.at .busy none)) from World.putObj_heap_same (Nat.lt_of_lt_of_le hlw hg.size))
        have HK2 := Aside0.mk (hxp.blk hk2 (by omega))
        have HV2 := Aside0.mk (hxp.blk hv2 (by omega))
        have HRF := Aside0.mk (And.intro (ex_F hxp (ex_F hg (R_F HL.out.2.1.k) (fun _ _ h => h)) (fun b hb e => by have := hb.1; have := HL.out.1; omega)) (ex_F hxp (ex_F hg (R_F HL.out.2.1.v) (fun _ _ h => h)) (fun b hb e => by have := hb.1; have := HL.out.1; omega)))
        generalize W3.putObj (W7.heap.size + 1) (.loop (rec2.at .busy none)) = X4 at HG4 HEX HB8 HB4 HB5 HB6 HB7 HRD HJD4 HRL HK2 HV2 HRF ⊢
        obtain ⟨p, hp, hpk⟩ : ∃ p, l[pre.length]? = some p ∧ (p.k = r.k ∧ p.v = r.v) := by
          have h1 := congrArg (fun l => l[pre.length]?) HKV.out
          simp only [List.map_append, List.map_cons, List.getElem?_map] at h1
          rw [List.getElem?_append_right (by simp)] at h1
          cases hq : l[pre.length]? with
          | none => rw [hq] at h1; simp at h1
          | some p => rw [hq] at h1; simp [Pr.kv] at h1; exact ⟨p, rfl, h1.1.symm, h1.2.symm⟩
        have hil : pre.length < l.length := (List.getElem?_eq_some_iff.1 hp).1
        obtain ⟨gr, cs, hM, _, _, hcs, hsz, hpc⟩ := HCL.out _ p hp
        subst hM
        have HPC := Aside0.mk hpc
        have HCS := Aside0.mk hcs
        have HPK := Aside0.mk hpk
        have HGP := Aside0.mk (HR.out.good p (List.mem_of_getElem? hp))
        have HLK := Aside0.mk HL.out.2.2
        have HLN := Aside0.mk (show Lens r.k ∧ Lens r.v from HLENS.out pre r suf hsort)
        have hii : (pre.length : Int) < (l.length : Int) := by omega
        have hi0 : (0 : Int) ≤ (pre.length : Int) := by omega
        have hi100 : pre.length < 1000000 := by omega
        have hge : ¬ (l.length : Int) ≤ (pre.length : Int) := by omega
        clear hpc hcs hpk hp hg hj2 hjd hk2 hv2 hxp hlw HCL
        refine region_in 33 [] (specL [Is (.int .i64 pre.length), Is (.pointer (some ⟨h, 0, none⟩)), Is (.pointer (some ⟨h, 0, none⟩)), Is (.pointer (some ⟨h, 0, none⟩)), Is (.slice (some ⟨gr, 0, none⟩) l.length cm), Is (.int .i64 l.length), Is (.bool false), Is (.bool false), Is (.agg #[.int .u8 r.k.f0, .int .i64 r.k.f1, .string r.k.f2, .slice r.A r.k.f3.length r.ca, .int .i64 r.k.f4]), Is (.pointer (some ⟨h, 0, none⟩)), Is (.pointer (some ⟨h, 0, none⟩)), Is (.pointer (some ⟨h, 0, none⟩)), Is (.slice (some ⟨gr, 0, none⟩) l.length cm), Is (.int .i64 pre.length), Is (.pointer (some ⟨gr, pre.length * 10, none⟩)), Is (.pointer (some ⟨gr, pre.length * 10, none⟩)), Is (.agg #[.int .u8 p.k.f0, .int .i64 p.k.f1, .string p.k.f2, .slice p.A p.k.f3.length p.c, .int .i64 p.k.f4]), Is (.bool true), Is (.bool false), Is (.bool false), Is (.bool false), Is (.agg #[.int .u8 r.v.f0, .int .i64 r.v.f1, .string r.v.f2, .slice r.B r.v.f3.length r.cb, .int .i64 r.v.f4]), Is (.pointer (some ⟨h, 0, none⟩)), Is (.pointer (some ⟨h, 0, none⟩)), Is (.pointer (some ⟨h, 0, none⟩)), Is (.slice (some ⟨gr, 0, none⟩) l.length cm), Is (.int .i64 pre.length), Is (.pointer (some ⟨gr, pre.length * 10, none⟩)), Is (.pointer (some ⟨gr, pre.length * 10 + 5, none⟩)), Is (.agg #[.int .u8 p.v.f0, .int .i64 p.v.f1, .string p.v.f2, .slice p.B p.v.f3.length p.d, .int .i64 p.v.f4]), Is (.bool true), Is (.bool false), Is (.bool false)]) (by decide) (by decide) (by kernel_rfl) (by kernel_rfl) (by kernel_rfl) (stab_all (stab_cons (stab_is _) (stab_cons (stab_is _) (stab_cons (stab_is _) (stab_cons (stab_is _) (stab_cons (stab_is _) (stab_cons (stab_is _) (stab_cons (stab_is _) (stab_cons (stab_is _) (stab_cons (stab_is _) (stab_cons (stab_is _) (stab_cons (stab_is _) (stab_cons (stab_is _) (stab_cons (stab_is _) (stab_cons (stab_is _) (stab_cons (stab_is _) (stab_cons (stab_is _) (stab_cons (stab_is _) (stab_cons (stab_is _) (stab_cons (stab_is _) (stab_cons (stab_is _) (stab_cons (stab_is _) (stab_cons (stab_is _) (stab_cons (stab_is _) (stab_cons (stab_is _) (stab_cons (stab_is _) (stab_cons (stab_is _) (stab_cons (stab_is _) (stab_cons (stab_is _) (stab_cons (stab_is _) (stab_cons (stab_is _) (stab_cons (stab_is _) (stab_cons (stab_is _) (stab_cons (stab_is _) (stab_nil))))))))))))))))))))))))))))))))))) ?_ ?_ ?_
        · intro i hi hnl
          obtain rfl | rfl | rfl | rfl | rfl | rfl | rfl | rfl | rfl | rfl | rfl | rfl | rfl | rfl | rfl | rfl | rfl | rfl | rfl | rfl | rfl | rfl | rfl | rfl | rfl | rfl | rfl | rfl | rfl | rfl | rfl | rfl | rfl : i = 0 ∨ i = 1 ∨ i = 2 ∨ i = 3 ∨ i = 4 ∨ i = 5 ∨ i = 6 ∨ i = 7 ∨ i = 8 ∨ i = 9 ∨ i = 10 ∨ i = 11 ∨ i = 12 ∨ i = 13 ∨ i = 14 ∨ i = 15 ∨ i = 16 ∨ i = 17 ∨ i = 18 ∨ i = 19 ∨ i = 20 ∨ i = 21 ∨ i = 22 ∨ i = 23 ∨ i = 24 ∨ i = 25 ∨ i = 26 ∨ i = 27 ∨ i = 28 ∨ i = 29 ∨ i = 30 ∨ i = 31 ∨ i = 32 := by omega
          · intro o ho ρ yl w1 hx hc hf hgl hp hb
            simp only [List.getElem?_toArray, List.getElem?_cons_succ, List.getElem?_cons_zero, Option.some.injEq] at ho
            subst ho
            have hx := ((Ex.refl (fun _ => False) X4).drew).trans hx (fun _ h => h.elim)
            have b8 := hb 8 (by kernel_rfl)
            clear hp hb
            have hb := hx.blk HB8.out (fun h => h)
            have c0 := (blk_cell hb 0).trans rfl
            have cl := lt_of_blk hb
            refine wantL rfl ⟨.int .i64 pre.length, w1, ?_, Ex.refl _ _, rfl⟩
            go_simp
          · intro o ho ρ yl w1 hx hc hf hgl hp hb
            simp only [List.getElem?_toArray, List.getElem?_cons_succ, List.getElem?_cons_zero, Option.some.injEq] at ho
            subst ho
            have hx := ((Ex.refl (fun _ => False) X4).drew).trans hx (fun _ h => h.elim)
            have b4 := hb 4 (by kernel_rfl)
            clear hp hb
            have hb := hx.blk HB4.out (fun h => h)
            have c0 := (blk_cell hb 0).trans rfl
            have cl := lt_of_blk hb
            refine wantL rfl ⟨.pointer (some ⟨h, 0, none⟩), w1, ?_, Ex.refl _ _, rfl⟩
            go_simp
          · intro o ho ρ yl w1 hx hc hf hgl hp hb
            simp only [List.getElem?_toArray, List.getElem?_cons_succ, List.getElem?_cons_zero, Option.some.injEq] at ho
            subst ho
            have hx := ((Ex.refl (fun _ => False) X4).drew).trans hx (fun _ h => h.elim)
            obtain ⟨v1, s1, e1, y1⟩ := hp 1 (by kernel_rfl)
            have e1 := e1 78 rfl
            obtain rfl : v1 = (.pointer (some ⟨h, 0, none⟩)) := s1
            clear y1
            clear hp hb
            have hh := (HEX.out.trans hx (fun _ h => h.elim)).blk HR.out.hh (fun h => h)
            have c0 := (blk_cell hh 0).trans rfl
            have hhl := lt_of_blk hh
            refine wantL rfl ⟨.pointer (some ⟨h, 0, none⟩), w1, ?_, Ex.refl _ _, rfl⟩
            go_simp
          · intro o ho ρ yl w1 hx hc hf hgl hp hb
            simp only [List.getElem?_toArray, List.getElem?_cons_succ, List.getElem?_cons_zero, Option.some.injEq] at ho
            subst ho
            have hx := ((Ex.refl (fun _ => False) X4).drew).trans hx (fun _ h => h.elim)
            obtain ⟨v2, s2, e2, y2⟩ := hp 2 (by kernel_rfl)
            have e2 := e2 79 rfl
            obtain rfl : v2 = (.pointer (some ⟨h, 0, none⟩)) := s2
            clear y2
            clear hp hb
            have hh := (HEX.out.trans hx (fun _ h => h.elim)).blk HR.out.hh (fun h => h)
            have c0 := (blk_cell hh 0).trans rfl
            have hhl := lt_of_blk hh
            refine wantL rfl ⟨.pointer (some ⟨h, 0, none⟩), w1, ?_, Ex.refl _ _, rfl⟩
            go_simp
          · intro o ho ρ yl w1 hx hc hf hgl hp hb
            simp only [List.getElem?_toArray, List.getElem?_cons_succ, List.getElem?_cons_zero, Option.some.injEq] at ho
            subst ho
            have hx := ((Ex.refl (fun _ => False) X4).drew).trans hx (fun _ h => h.elim)
            obtain ⟨v3, s3, e3, y3⟩ := hp 3 (by kernel_rfl)
            have e3 := e3 80 rfl
            obtain rfl : v3 = (.pointer (some ⟨h, 0, none⟩)) := s3
            clear y3
            clear hp hb
            have hh := (HEX.out.trans hx (fun _ h => h.elim)).blk HR.out.hh (fun h => h)
            have c0 := (blk_cell hh 0).trans rfl
            have hhl := lt_of_blk hh
            refine wantL rfl ⟨.slice (some ⟨gr, 0, none⟩) l.length cm, w1, ?_, Ex.refl _ _, rfl⟩
            go_simp
          · intro o ho ρ yl w1 hx hc hf hgl hp hb
            simp only [List.getElem?_toArray, List.getElem?_cons_succ, List.getElem?_cons_zero, Option.some.injEq] at ho
            subst ho
            have hx := ((Ex.refl (fun _ => False) X4).drew).trans hx (fun _ h => h.elim)
            obtain ⟨v4, s4, e4, y4⟩ := hp 4 (by kernel_rfl)
            have e4 := e4 81 rfl
            obtain rfl : v4 = (.slice (some ⟨gr, 0, none⟩) l.length cm) := s4
            clear y4
            clear hp hb
            refine wantL rfl ⟨.int .i64 l.length, w1, ?_, Ex.refl _ _, rfl⟩
            go_simp
          · intro o ho ρ yl w1 hx hc hf hgl hp hb
            simp only [List.getElem?_toArray, List.getElem?_cons_succ, List.getElem?_cons_zero, Option.some.injEq] at ho
            subst ho
            have hx := ((Ex.refl (fun _ => False) X4).drew).trans hx (fun _ h => h.elim)
            obtain ⟨v0, s0, e0, y0⟩ := hp 0 (by kernel_rfl)
            have e0 := e0 77 rfl
            obtain rfl : v0 = (.int .i64 pre.length) := s0
            clear y0
            obtain ⟨v5, s5, e5, y5⟩ := hp 5 (by kernel_rfl)
            have e5 := e5 82 rfl
            obtain rfl : v5 = (.int .i64 l.length) := s5
            clear y5
            clear hp hb
            refine wantL rfl ⟨.bool false, w1, ?_, Ex.refl _ _, rfl⟩
            go_simp
          · intro o ho ρ yl w1 hx hc hf hgl hp hb
            simp only [List.getElem?_toArray, List.getElem?_cons_succ, List.getElem?_cons_zero, Option.some.injEq] at ho
            subst ho
            have hx := ((Ex.refl (fun _ => False) X4).drew).trans hx (fun _ h => h.elim)
            obtain ⟨v6, s6, e6, y6⟩ := hp 6 (by kernel_rfl)
            have e6 := e6 83 rfl
            obtain rfl : v6 = (.bool false) := s6
            clear y6
            clear hp hb
            refine wantL rfl ⟨.bool false, w1, ?_, Ex.refl _ _, rfl⟩
            go_simp
          · intro o ho ρ yl w1 hx hc hf hgl hp hb
            simp only [List.getElem?_toArray, List.getElem?_cons_succ, List.getElem?_cons_zero, Option.some.injEq] at ho
            subst ho
            have hx := ((Ex.refl (fun _ => False) X4).drew).trans hx (fun _ h => h.elim)
            obtain ⟨v7, s7, e7, y7⟩ := hp 7 (by kernel_rfl)
            have e7 := e7 84 rfl
            obtain rfl : v7 = (.bool false) := s7
            have y7 := y7 rfl
            have b11 := hb 11 (by kernel_rfl)
            clear hp hb
            have hb := hx.blk HK2.out (fun h => h)
            have h0 := (blk_cell hb 0).trans rfl
            have h1 := (blk_cell hb 1).trans rfl
            have h2 := (blk_cell hb 2).trans rfl
            have h3 := (blk_cell hb 3).trans rfl
            have h4 := (blk_cell hb 4).trans rfl
            have hbl := lt_of_blk hb
            refine wantL (by simp [Region.wanted, y7]) ⟨.agg #[.int .u8 r.k.f0, .int .i64 r.k.f1, .string r.k.f2, .slice r.A r.k.f3.length r.ca, .int .i64 r.k.f4], w1, ?_, Ex.refl _ _, rfl⟩
            go_simp
          · intro o ho ρ yl w1 hx hc hf hgl hp hb
            simp only [List.getElem?_toArray, List.getElem?_cons_succ, List.getElem?_cons_zero, Option.some.injEq] at ho
            subst ho
            have hx := ((Ex.refl (fun _ => False) X4).drew).trans hx (fun _ h => h.elim)
            obtain ⟨v7, s7, e7, y7⟩ := hp 7 (by kernel_rfl)
            have e7 := e7 84 rfl
            obtain rfl : v7 = (.bool false) := s7
            have y7 := y7 rfl
            have b4 := hb 4 (by kernel_rfl)
            clear hp hb
            have hb := hx.blk HB4.out (fun h => h)
            have c0 := (blk_cell hb 0).trans rfl
            have cl := lt_of_blk hb
            refine wantL (by simp [Region.wanted, y7]) ⟨.pointer (some ⟨h, 0, none⟩), w1, ?_, Ex.refl _ _, rfl⟩
            go_simp
          · intro o ho ρ yl w1 hx hc hf hgl hp hb
            simp only [List.getElem?_toArray, List.getElem?_cons_succ, List.getElem?_cons_zero, Option.some.injEq] at ho
            subst ho
            have hx := ((Ex.refl (fun _ => False) X4).drew).trans hx (fun _ h => h.elim)
            obtain ⟨v9, s9, e9, y9⟩ := hp 9 (by kernel_rfl)
            have e9 := e9 86 rfl
            obtain rfl : v9 = (.pointer (some ⟨h, 0, none⟩)) := s9
            clear y9
            obtain ⟨v7, s7, e7, y7⟩ := hp 7 (by kernel_rfl)
            have e7 := e7 84 rfl
            obtain rfl : v7 = (.bool false) := s7
            have y7 := y7 rfl
            clear hp hb
            have hh := (HEX.out.trans hx (fun _ h => h.elim)).blk HR.out.hh (fun h => h)
            have c0 := (blk_cell hh 0).trans rfl
            have hhl := lt_of_blk hh
            refine wantL (by simp [Region.wanted, y7]) ⟨.pointer (some ⟨h, 0, none⟩), w1, ?_, Ex.refl _ _, rfl⟩
            go_simp
          · intro o ho ρ yl w1 hx hc hf hgl hp hb
            simp only [List.getElem?_toArray, List.getElem?_cons_succ, List.getElem?_cons_zero, Option.some.injEq] at ho
            subst ho
            have hx := ((Ex.refl (fun _ => False) X4).drew).trans hx (fun _ h => h.elim)
            obtain ⟨v10, s10, e10, y10⟩ := hp 10 (by kernel_rfl)
            have e10 := e10 87 rfl
            obtain rfl : v10 = (.pointer (some ⟨h, 0, none⟩)) := s10
            clear y10
            obtain ⟨v7, s7, e7, y7⟩ := hp 7 (by kernel_rfl)
            have e7 := e7 84 rfl
            obtain rfl : v7 = (.bool false) := s7
            have y7 := y7 rfl
            clear hp hb
            have hh := (HEX.out.trans hx (fun _ h => h.elim)).blk HR.out.hh (fun h => h)
            have c0 := (blk_cell hh 0).trans rfl
            have hhl := lt_of_blk hh
            refine wantL (by simp [Region.wanted, y7]) ⟨.pointer (some ⟨h, 0, none⟩), w1, ?_, Ex.refl _ _, rfl⟩
            go_simp
          · intro o ho ρ yl w1 hx hc hf hgl hp hb
            simp only [List.getElem?_toArray, List.getElem?_cons_succ, List.getElem?_cons_zero, Option.some.injEq] at ho
            subst ho
            have hx := ((Ex.refl (fun _ => False) X4).drew).trans hx (fun _ h => h.elim)
            obtain ⟨v11, s11, e11, y11⟩ := hp 11 (by kernel_rfl)
            have e11 := e11 88 rfl
            obtain rfl : v11 = (.pointer (some ⟨h, 0, none⟩)) := s11
            clear y11
            obtain ⟨v7, s7, e7, y7⟩ := hp 7 (by kernel_rfl)
            have e7 := e7 84 rfl
            obtain rfl : v7 = (.bool false) := s7
            have y7 := y7 rfl
            clear hp hb
            have hh := (HEX.out.trans hx (fun _ h => h.elim)).blk HR.out.hh (fun h => h)
            have c0 := (blk_cell hh 0).trans rfl
            have hhl := lt_of_blk hh
            refine wantL (by simp [Region.wanted, y7]) ⟨.slice (some ⟨gr, 0, none⟩) l.length cm, w1, ?_, Ex.refl _ _, rfl⟩
            go_simp
          · intro o ho ρ yl w1 hx hc hf hgl hp hb
            simp only [List.getElem?_toArray, List.getElem?_cons_succ, List.getElem?_cons_zero, Option.some.injEq] at ho
            subst ho
            have hx := ((Ex.refl (fun _ => False) X4).drew).trans hx (fun _ h => h.elim)
            obtain ⟨v7, s7, e7, y7⟩ := hp 7 (by kernel_rfl)
            have e7 := e7 84 rfl
            obtain rfl : v7 = (.bool false) := s7
            have y7 := y7 rfl
            have b8 := hb 8 (by kernel_rfl)
            clear hp hb
            have hb := hx.blk HB8.out (fun h => h)
            have c0 := (blk_cell hb 0).trans rfl
            have cl := lt_of_blk hb
            refine wantL (by simp [Region.wanted, y7]) ⟨.int .i64 pre.length, w1, ?_, Ex.refl _ _, rfl⟩
            go_simp
          · intro o ho ρ yl w1 hx hc hf hgl hp hb
            simp only [List.getElem?_toArray, List.getElem?_cons_succ, List.getElem?_cons_zero, Option.some.injEq] at ho
            subst ho
            have hx := ((Ex.refl (fun _ => False) X4).drew).trans hx (fun _ h => h.elim)
            obtain ⟨v12, s12, e12, y12⟩ := hp 12 (by kernel_rfl)
            have e12 := e12 89 rfl
            obtain rfl : v12 = (.slice (some ⟨gr, 0, none⟩) l.length cm) := s12
            clear y12
            obtain ⟨v13, s13, e13, y13⟩ := hp 13 (by kernel_rfl)
            have e13 := e13 90 rfl
            obtain rfl : v13 = (.int .i64 pre.length) := s13
            clear y13
            obtain ⟨v7, s7, e7, y7⟩ := hp 7 (by kernel_rfl)
            have e7 := e7 84 rfl
            obtain rfl : v7 = (.bool false) := s7
            have y7 := y7 rfl
            clear hp hb
            refine wantL (by simp [Region.wanted, y7]) ⟨.pointer (some ⟨gr, pre.length * 10, none⟩), w1, ?_, Ex.refl _ _, rfl⟩
            go_simp
          · intro o ho ρ yl w1 hx hc hf hgl hp hb
            simp only [List.getElem?_toArray, List.getElem?_cons_succ, List.getElem?_cons_zero, Option.some.injEq] at ho
            subst ho
            have hx := ((Ex.refl (fun _ => False) X4).drew).trans hx (fun _ h => h.elim)
            obtain ⟨v14, s14, e14, y14⟩ := hp 14 (by kernel_rfl)
            have e14 := e14 91 rfl
            obtain rfl : v14 = (.pointer (some ⟨gr, pre.length * 10, none⟩)) := s14
            clear y14
            obtain ⟨v7, s7, e7, y7⟩ := hp 7 (by kernel_rfl)
            have e7 := e7 84 rfl
            obtain rfl : v7 = (.bool false) := s7
            have y7 := y7 rfl
            clear hp hb
            have hlg := lt_of_blk HCS.out
            have h0 : w1.cell? ⟨gr, pre.length * 10, none⟩ = some (.int .u8 p.k.f0) := ((HEX.out.trans hx (fun _ h => h.elim)).cell hlg (fun h => h) _).trans (HPC.out 0 _ rfl)
            have h1 : w1.cell? ⟨gr, pre.length * 10 + 1, none⟩ = some (.int .i64 p.k.f1) := ((HEX.out.trans hx (fun _ h => h.elim)).cell hlg (fun h => h) _).trans (HPC.out 1 _ rfl)
            have h2 : w1.cell? ⟨gr, pre.length * 10 + 2, none⟩ = some (.string p.k.f2) := ((HEX.out.trans hx (fun _ h => h.elim)).cell hlg (fun h => h) _).trans (HPC.out 2 _ rfl)
            have h3 : w1.cell? ⟨gr, pre.length * 10 + 3, none⟩ = some (.slice p.A p.k.f3.length p.c) := ((HEX.out.trans hx (fun _ h => h.elim)).cell hlg (fun h => h) _).trans (HPC.out 3 _ rfl)
            have h4 : w1.cell? ⟨gr, pre.length * 10 + 4, none⟩ = some (.int .i64 p.k.f4) := ((HEX.out.trans hx (fun _ h => h.elim)).cell hlg (fun h => h) _).trans (HPC.out 4 _ rfl)
            have hlg1 := lt_of_blk ((HEX.out.trans hx (fun _ h => h.elim)).blk HCS.out (fun h => h))
            refine wantL (by simp [Region.wanted, y7]) ⟨.pointer (some ⟨gr, pre.length * 10, none⟩), w1, ?_, Ex.refl _ _, rfl⟩
            go_simp
          · intro o ho ρ yl w1 hx hc hf hgl hp hb
            simp only [List.getElem?_toArray, List.getElem?_cons_succ, List.getElem?_cons_zero, Option.some.injEq] at ho
            subst ho
            have hx := ((Ex.refl (fun _ => False) X4).drew).trans hx (fun _ h => h.elim)
            obtain ⟨v15, s15, e15, y15⟩ := hp 15 (by kernel_rfl)
            have e15 := e15 92 rfl
            obtain rfl : v15 = (.pointer (some ⟨gr, pre.length * 10, none⟩)) := s15
            clear y15
            obtain ⟨v7, s7, e7, y7⟩ := hp 7 (by kernel_rfl)
            have e7 := e7 84 rfl
            obtain rfl : v7 = (.bool false) := s7
            have y7 := y7 rfl
            clear hp hb
            have hlg := lt_of_blk HCS.out
            have h0 : w1.cell? ⟨gr, pre.length * 10, none⟩ = some (.int .u8 p.k.f0) := ((HEX.out.trans hx (fun _ h => h.elim)).cell hlg (fun h => h) _).trans (HPC.out 0 _ rfl)
            have h1 : w1.cell? ⟨gr, pre.length * 10 + 1, none⟩ = some (.int .i64 p.k.f1) := ((HEX.out.trans hx (fun _ h => h.elim)).cell hlg (fun h => h) _).trans (HPC.out 1 _ rfl)
            have h2 : w1.cell? ⟨gr, pre.length * 10 + 2, none⟩ = some (.string p.k.f2) := ((HEX.out.trans hx (fun _ h => h.elim)).cell hlg (fun h => h) _).trans (HPC.out 2 _ rfl)
            have h3 : w1.cell? ⟨gr, pre.length * 10 + 3, none⟩ = some (.slice p.A p.k.f3.length p.c) := ((HEX.out.trans hx (fun _ h => h.elim)).cell hlg (fun h => h) _).trans (HPC.out 3 _ rfl)
            have h4 : w1.cell? ⟨gr, pre.length * 10 + 4, none⟩ = some (.int .i64 p.k.f4) := ((HEX.out.trans hx (fun _ h => h.elim)).cell hlg (fun h => h) _).trans (HPC.out 4 _ rfl)
            have hlg1 := lt_of_blk ((HEX.out.trans hx (fun _ h => h.elim)).blk HCS.out (fun h => h))
            refine wantL (by simp [Region.wanted, y7]) ⟨.agg #[.int .u8 p.k.f0, .int .i64 p.k.f1, .string p.k.f2, .slice p.A p.k.f3.length p.c, .int .i64 p.k.f4], w1, ?_, Ex.refl _ _, rfl⟩
            go_simp
          · intro o ho ρ yl w1 hx hc hf hgl hp hb
            simp only [List.getElem?_toArray, List.getElem?_cons_succ, List.getElem?_cons_zero, Option.some.injEq] at ho
            subst ho
            have hx := ((Ex.refl (fun _ => False) X4).drew).trans hx (fun _ h => h.elim)
            obtain ⟨v8, s8, e8, y8⟩ := hp 8 (by kernel_rfl)
            have e8 := e8 85 rfl
            obtain rfl : v8 = (.agg #[.int .u8 r.k.f0, .int .i64 r.k.f1, .string r.k.f2, .slice r.A r.k.f3.length r.ca, .int .i64 r.k.f4]) := s8
            clear y8
            obtain ⟨v16, s16, e16, y16⟩ := hp 16 (by kernel_rfl)
            have e16 := e16 93 rfl
            obtain rfl : v16 = (.agg #[.int .u8 p.k.f0, .int .i64 p.k.f1, .string p.k.f2, .slice p.A p.k.f3.length p.c, .int .i64 p.k.f4]) := s16
            clear y16
            obtain ⟨v7, s7, e7, y7⟩ := hp 7 (by kernel_rfl)
            have e7 := e7 84 rfl
            obtain rfl : v7 = (.bool false) := s7
            have y7 := y7 rfl
            clear hp hb
            refine wantR (by simp [Region.wanted, y7]) ⟨26, #[.agg #[.int .u8 r.k.f0, .int .i64 r.k.f1, .string r.k.f2, .slice r.A r.k.f3.length r.ca, .int .i64 r.k.f4], .agg #[.int .u8 p.k.f0, .int .i64 p.k.f1, .string p.k.f2, .slice p.A p.k.f3.length p.c, .int .i64 p.k.f4]], exec_call' Try.func26 (by kernel_rfl) rfl _ rfl (by simp [e8, e16]) (hf 26), ?_⟩
            refine (same_calls r.k p.k r.A p.A r.ca p.c _ HLK.out.1 (Kd.F_now (ex_F hx HRF.out.1 (fun _ _ h => h))) HGP.out.lk (Kd.F_now (ex_F (HEX.out.trans hx (fun _ h => h.elim)) HGP.out.fk (fun _ _ h => h))) HLN.out.1).mono ?_
            rintro e' wq ⟨rfl, hq0⟩
            exact ⟨_, rfl, Ex.of_below hq0, by rw [eqS_iff.2 HPK.out.1.symm]; rfl⟩
          · intro o ho ρ yl w1 hx hc hf hgl hp hb
            simp only [List.getElem?_toArray, List.getElem?_cons_succ, List.getElem?_cons_zero, Option.some.injEq] at ho
            subst ho
            have hx := ((Ex.refl (fun _ => False) X4).drew).trans hx (fun _ h => h.elim)
            obtain ⟨v17, s17, e17, y17⟩ := hp 17 (by kernel_rfl)
            have e17 := e17 94 rfl
            obtain rfl : v17 = (.bool true) := s17
            clear y17
            obtain ⟨v7, s7, e7, y7⟩ := hp 7 (by kernel_rfl)
            have e7 := e7 84 rfl
            obtain rfl : v7 = (.bool false) := s7
            have y7 := y7 rfl
            clear hp hb
            refine wantL (by simp [Region.wanted, y7]) ⟨.bool false, w1, ?_, Ex.refl _ _, rfl⟩
            go_simp
          · intro o ho ρ yl w1 hx hc hf hgl hp hb
            simp only [List.getElem?_toArray, List.getElem?_cons_succ, List.getElem?_cons_zero, Option.some.injEq] at ho
            subst ho
            have hx := ((Ex.refl (fun _ => False) X4).drew).trans hx (fun _ h => h.elim)
            obtain ⟨v7, s7, e7, y7⟩ := hp 7 (by kernel_rfl)
            have e7 := e7 84 rfl
            obtain rfl : v7 = (.bool false) := s7
            clear y7
            obtain ⟨v18, s18, e18, y18⟩ := hp 18 (by kernel_rfl)
            have e18 := e18 95 rfl
            obtain rfl : v18 = (.bool false) := s18
            clear y18
            clear hp hb
            refine wantL rfl ⟨.bool false, w1, ?_, Ex.refl _ _, rfl⟩
            go_simp
          · intro o ho ρ yl w1 hx hc hf hgl hp hb
            simp only [List.getElem?_toArray, List.getElem?_cons_succ, List.getElem?_cons_zero, Option.some.injEq] at ho
            subst ho
            have hx := ((Ex.refl (fun _ => False) X4).drew).trans hx (fun _ h => h.elim)
            obtain ⟨v19, s19, e19, y19⟩ := hp 19 (by kernel_rfl)
            have e19 := e19 96 rfl
            obtain rfl : v19 = (.bool false) := s19
            clear y19
            obtain ⟨v17, s17, e17, y17⟩ := hp 17 (by kernel_rfl)
            have e17 := e17 94 rfl
            obtain rfl : v17 = (.bool true) := s17
            clear y17
            clear hp hb
            refine wantL rfl ⟨.bool false, w1, ?_, Ex.refl _ _, rfl⟩
            go_simp
          · intro o ho ρ yl w1 hx hc hf hgl hp hb
            simp only [List.getElem?_toArray, List.getElem?_cons_succ, List.getElem?_cons_zero, Option.some.injEq] at ho
            subst ho
            have hx := ((Ex.refl (fun _ => False) X4).drew).trans hx (fun _ h => h.elim)
            obtain ⟨v20, s20, e20, y20⟩ := hp 20 (by kernel_rfl)
            have e20 := e20 97 rfl
            obtain rfl : v20 = (.bool false) := s20
            have y20 := y20 rfl
            have b12 := hb 12 (by kernel_rfl)
            clear hp hb
            have hb := hx.blk HV2.out (fun h => h)
            have h0 := (blk_cell hb 0).trans rfl
            have h1 := (blk_cell hb 1).trans rfl
            have h2 := (blk_cell hb 2).trans rfl
            have h3 := (blk_cell hb 3).trans rfl
            have h4 := (blk_cell hb 4).trans rfl
            have hbl := lt_of_blk hb
            refine wantL (by simp [Region.wanted, y20]) ⟨.agg #[.int .u8 r.v.f0, .int .i64 r.v.f1, .string r.v.f2, .slice r.B r.v.f3.length r.cb, .int .i64 r.v.f4], w1, ?_, Ex.refl _ _, rfl⟩
            go_simp
          · intro o ho ρ yl w1 hx hc hf hgl hp hb
            simp only [List.getElem?_toArray, List.getElem?_cons_succ, List.getElem?_cons_zero, Option.some.injEq] at ho
            subst ho
            have hx := ((Ex.refl (fun _ => False) X4).drew).trans hx (fun _ h => h.elim)
            obtain ⟨v20, s20, e20, y20⟩ := hp 20 (by kernel_rfl)
            have e20 := e20 97 rfl
            obtain rfl : v20 = (.bool false) := s20
            have y20 := y20 rfl
            have b4 := hb 4 (by kernel_rfl)
            clear hp hb
            have hb := hx.blk HB4.out (fun h => h)
            have c0 := (blk_cell hb 0).trans rfl
            have cl := lt_of_blk hb
            refine wantL (by simp [Region.wanted, y20]) ⟨.pointer (some ⟨h, 0, none⟩), w1, ?_, Ex.refl _ _, rfl⟩
            go_simp
          · intro o ho ρ yl w1 hx hc hf hgl hp hb
            simp only [List.getElem?_toArray, List.getElem?_cons_succ, List.getElem?_cons_zero, Option.some.injEq] at ho
            subst ho
            have hx := ((Ex.refl (fun _ => False) X4).drew).trans hx (fun _ h => h.elim)
            obtain ⟨v22, s22, e22, y22⟩ := hp 22 (by kernel_rfl)
            have e22 := e22 99 rfl
            obtain rfl : v22 = (.pointer (some ⟨h, 0, none⟩)) := s22
            clear y22
            obtain ⟨v20, s20, e20, y20⟩ := hp 20 (by kernel_rfl)
            have e20 := e20 97 rfl
            obtain rfl : v20 = (.bool false) := s20
            have y20 := y20 rfl
            clear hp hb
            have hh := (HEX.out.trans hx (fun _ h => h.elim)).blk HR.out.hh (fun h => h)
            have c0 := (blk_cell hh 0).trans rfl
            have hhl := lt_of_blk hh
            refine wantL (by simp [Region.wanted, y20]) ⟨.pointer (some ⟨h, 0, none⟩), w1, ?_, Ex.refl _ _, rfl⟩
            go_simp
          · intro o ho ρ yl w1 hx hc hf hgl hp hb
            simp only [List.getElem?_toArray, List.getElem?_cons_succ, List.getElem?_cons_zero, Option.some.injEq] at ho
            subst ho
            have hx := ((Ex.refl (fun _ => False) X4).drew).trans hx (fun _ h => h.elim)
            obtain ⟨v23, s23, e23, y23⟩ := hp 23 (by kernel_rfl)
            have e23 := e23 100 rfl
            obtain rfl : v23 = (.pointer (some ⟨h, 0, none⟩)) := s23
            clear y23
            obtain ⟨v20, s20, e20, y20⟩ := hp 20 (by kernel_rfl)
            have e20 := e20 97 rfl
            obtain rfl : v20 = (.bool false) := s20
            have y20 := y20 rfl
            clear hp hb
            have hh := (HEX.out.trans hx (fun _ h => h.elim)).blk HR.out.hh (fun h => h)
            have c0 := (blk_cell hh 0).trans rfl
            have hhl := lt_of_blk hh
            refine wantL (by simp [Region.wanted, y20]) ⟨.pointer (some ⟨h, 0, none⟩), w1, ?_, Ex.refl _ _, rfl⟩
            go_simp
          · intro o ho ρ yl w1 hx hc hf hgl hp hb
            simp only [List.getElem?_toArray, List.getElem?_cons_succ, List.getElem?_cons_zero, Option.some.injEq] at ho
            subst ho
            have hx := ((Ex.refl (fun _ => False) X4).drew).trans hx (fun _ h => h.elim)
            obtain ⟨v24, s24, e24, y24⟩ := hp 24 (by kernel_rfl)
            have e24 := e24 101 rfl
            obtain rfl : v24 = (.pointer (some ⟨h, 0, none⟩)) := s24
            clear y24
            obtain ⟨v20, s20, e20, y20⟩ := hp 20 (by kernel_rfl)
            have e20 := e20 97 rfl
            obtain rfl : v20 = (.bool false) := s20
            have y20 := y20 rfl
            clear hp hb
            have hh := (HEX.out.trans hx (fun _ h => h.elim)).blk HR.out.hh (fun h => h)
            have c0 := (blk_cell hh 0).trans rfl
            have hhl := lt_of_blk hh
            refine wantL (by simp [Region.wanted, y20]) ⟨.slice (some ⟨gr, 0, none⟩) l.length cm, w1, ?_, Ex.refl _ _, rfl⟩
            go_simp
          · intro o ho ρ yl w1 hx hc hf hgl hp hb
            simp only [List.getElem?_toArray, List.getElem?_cons_succ, List.getElem?_cons_zero, Option.some.injEq] at ho
            subst ho
            have hx := ((Ex.refl (fun _ => False) X4).drew).trans hx (fun _ h => h.elim)
            obtain ⟨v20, s20, e20, y20⟩ := hp 20 (by kernel_rfl)
            have e20 := e20 97 rfl
            obtain rfl : v20 = (.bool false) := s20
            have y20 := y20 rfl
            have b8 := hb 8 (by kernel_rfl)
            clear hp hb
            have hb := hx.blk HB8.out (fun h => h)
            have c0 := (blk_cell hb 0).trans rfl
            have cl := lt_of_blk hb
            refine wantL (by simp [Region.wanted, y20]) ⟨.int .i64 pre.length, w1, ?_, Ex.refl _ _, rfl⟩
            go_simp
          · intro o ho ρ yl w1 hx hc hf hgl hp hb
            simp only [List.getElem?_toArray, List.getElem?_cons_succ, List.getElem?_cons_zero, Option.some.injEq] at ho
            subst ho
            have hx := ((Ex.refl (fun _ => False) X4).drew).trans hx (fun _ h => h.elim)
            obtain ⟨v25, s25, e25, y25⟩ := hp 25 (by kernel_rfl)
            have e25 := e25 102 rfl
            obtain rfl : v25 = (.slice (some ⟨gr, 0, none⟩) l.length cm) := s25
            clear y25
            obtain ⟨v26, s26, e26, y26⟩ := hp 26 (by kernel_rfl)
            have e26 := e26 103 rfl
            obtain rfl : v26 = (.int .i64 pre.length) := s26
            clear y26
            obtain ⟨v20, s20, e20, y20⟩ := hp 20 (by kernel_rfl)
            have e20 := e20 97 rfl
            obtain rfl : v20 = (.bool false) := s20
            have y20 := y20 rfl
            clear hp hb
            refine wantL (by simp [Region.wanted, y20]) ⟨.pointer (some ⟨gr, pre.length * 10, none⟩), w1, ?_, Ex.refl _ _, rfl⟩
            go_simp
          · intro o ho ρ yl w1 hx hc hf hgl hp hb
            simp only [List.getElem?_toArray, List.getElem?_cons_succ, List.getElem?_cons_zero, Option.some.injEq] at ho
            subst ho
            have hx := ((Ex.refl (fun _ => False) X4).drew).trans hx (fun _ h => h.elim)
            obtain ⟨v27, s27, e27, y27⟩ := hp 27 (by kernel_rfl)
            have e27 := e27 104 rfl
            obtain rfl : v27 = (.pointer (some ⟨gr, pre.length * 10, none⟩)) := s27
            clear y27
            obtain ⟨v20, s20, e20, y20⟩ := hp 20 (by kernel_rfl)
            have e20 := e20 97 rfl
            obtain rfl : v20 = (.bool false) := s20
            have y20 := y20 rfl
            clear hp hb
            have hlg := lt_of_blk HCS.out
            have h0 : w1.cell? ⟨gr, pre.length * 10 + 5, none⟩ = some (.int .u8 p.v.f0) := ((HEX.out.trans hx (fun _ h => h.elim)).cell hlg (fun h => h) _).trans (HPC.out 5 _ rfl)
            have h1 : w1.cell? ⟨gr, pre.length * 10 + 6, none⟩ = some (.int .i64 p.v.f1) := ((HEX.out.trans hx (fun _ h => h.elim)).cell hlg (fun h => h) _).trans (HPC.out 6 _ rfl)
            have h2 : w1.cell? ⟨gr, pre.length * 10 + 7, none⟩ = some (.string p.v.f2) := ((HEX.out.trans hx (fun _ h => h.elim)).cell hlg (fun h => h) _).trans (HPC.out 7 _ rfl)
            have h3 : w1.cell? ⟨gr, pre.length * 10 + 8, none⟩ = some (.slice p.B p.v.f3.length p.d) := ((HEX.out.trans hx (fun _ h => h.elim)).cell hlg (fun h => h) _).trans (HPC.out 8 _ rfl)
            have h4 : w1.cell? ⟨gr, pre.length * 10 + 9, none⟩ = some (.int .i64 p.v.f4) := ((HEX.out.trans hx (fun _ h => h.elim)).cell hlg (fun h => h) _).trans (HPC.out 9 _ rfl)
            have hlg1 := lt_of_blk ((HEX.out.trans hx (fun _ h => h.elim)).blk HCS.out (fun h => h))
            refine wantL (by simp [Region.wanted, y20]) ⟨.pointer (some ⟨gr, pre.length * 10 + 5, none⟩), w1, ?_, Ex.refl _ _, rfl⟩
            go_simp
          · intro o ho ρ yl w1 hx hc hf hgl hp hb
            simp only [List.getElem?_toArray, List.getElem?_cons_succ, List.getElem?_cons_zero, Option.some.injEq] at ho
            subst ho
            have hx := ((Ex.refl (fun _ => False) X4).drew).trans hx (fun _ h => h.elim)
            obtain ⟨v28, s28, e28, y28⟩ := hp 28 (by kernel_rfl)
            have e28 := e28 105 rfl
            obtain rfl : v28 = (.pointer (some ⟨gr, pre.length * 10 + 5, none⟩)) := s28
            clear y28
            obtain ⟨v20, s20, e20, y20⟩ := hp 20 (by kernel_rfl)
            have e20 := e20 97 rfl
            obtain rfl : v20 = (.bool false) := s20
            have y20 := y20 rfl
            clear hp hb
            have hlg := lt_of_blk HCS.out
            have h0 : w1.cell? ⟨gr, pre.length * 10 + 5, none⟩ = some (.int .u8 p.v.f0) := ((HEX.out.trans hx (fun _ h => h.elim)).cell hlg (fun h => h) _).trans (HPC.out 5 _ rfl)
            have h1 : w1.cell? ⟨gr, pre.length * 10 + 6, none⟩ = some (.int .i64 p.v.f1) := ((HEX.out.trans hx (fun _ h => h.elim)).cell hlg (fun h => h) _).trans (HPC.out 6 _ rfl)
            have h2 : w1.cell? ⟨gr, pre.length * 10 + 7, none⟩ = some (.string p.v.f2) := ((HEX.out.trans hx (fun _ h => h.elim)).cell hlg (fun h => h) _).trans (HPC.out 7 _ rfl)
            have h3 : w1.cell? ⟨gr, pre.length * 10 + 8, none⟩ = some (.slice p.B p.v.f3.length p.d) := ((HEX.out.trans hx (fun _ h => h.elim)).cell hlg (fun h => h) _).trans (HPC.out 8 _ rfl)
            have h4 : w1.cell? ⟨gr, pre.length * 10 + 9, none⟩ = some (.int .i64 p.v.f4) := ((HEX.out.trans hx (fun _ h => h.elim)).cell hlg (fun h => h) _).trans (HPC.out 9 _ rfl)
            have hlg1 := lt_of_blk ((HEX.out.trans hx (fun _ h => h.elim)).blk HCS.out (fun h => h))
            refine wantL (by simp [Region.wanted, y20]) ⟨.agg #[.int .u8 p.v.f0, .int .i64 p.v.f1, .string p.v.f2, .slice p.B p.v.f3.length p.d, .int .i64 p.v.f4], w1, ?_, Ex.refl _ _, rfl⟩
            go_simp
          · intro o ho ρ yl w1 hx hc hf hgl hp hb
            simp only [List.getElem?_toArray, List.getElem?_cons_succ, List.getElem?_cons_zero, Option.some.injEq] at ho
            subst ho
            have hx := ((Ex.refl (fun _ => False) X4).drew).trans hx (fun _ h => h.elim)
            obtain ⟨v21, s21, e21, y21⟩ := hp 21 (by kernel_rfl)
            have e21 := e21 98 rfl
            obtain rfl : v21 = (.agg #[.int .u8 r.v.f0, .int .i64 r.v.f1, .string r.v.f2, .slice r.B r.v.f3.length r.cb, .int .i64 r.v.f4]) := s21
            clear y21
            obtain ⟨v29, s29, e29, y29⟩ := hp 29 (by kernel_rfl)
            have e29 := e29 106 rfl
            obtain rfl : v29 = (.agg #[.int .u8 p.v.f0, .int .i64 p.v.f1, .string p.v.f2, .slice p.B p.v.f3.length p.d, .int .i64 p.v.f4]) := s29
            clear y29
            obtain ⟨v20, s20, e20, y20⟩ := hp 20 (by kernel_rfl)
            have e20 := e20 97 rfl
            obtain rfl : v20 = (.bool false) := s20
            have y20 := y20 rfl
            clear hp hb
            refine wantR (by simp [Region.wanted, y20]) ⟨26, #[.agg #[.int .u8 r.v.f0, .int .i64 r.v.f1, .string r.v.f2, .slice r.B r.v.f3.length r.cb, .int .i64 r.v.f4], .agg #[.int .u8 p.v.f0, .int .i64 p.v.f1, .string p.v.f2, .slice p.B p.v.f3.length p.d, .int .i64 p.v.f4]], exec_call' Try.func26 (by kernel_rfl) rfl _ rfl (by simp [e21, e29]) (hf 26), ?_⟩
            refine (same_calls r.v p.v r.B p.B r.cb p.d _ HLK.out.2 (Kd.F_now (ex_F hx HRF.out.2 (fun _ _ h => h))) HGP.out.lv (Kd.F_now (ex_F (HEX.out.trans hx (fun _ h => h.elim)) HGP.out.fv (fun _ _ h => h))) HLN.out.2).mono ?_
            rintro e' wq ⟨rfl, hq0⟩
            exact ⟨_, rfl, Ex.of_below hq0, by rw [eqS_iff.2 HPK.out.2.symm]; rfl⟩
          · intro o ho ρ yl w1 hx hc hf hgl hp hb
            simp only [List.getElem?_toArray, List.getElem?_cons_succ, List.getElem?_cons_zero, Option.some.injEq] at ho
            subst ho
            have hx := ((Ex.refl (fun _ => False) X4).drew).trans hx (fun _ h => h.elim)
            obtain ⟨v30, s30, e30, y30⟩ := hp 30 (by kernel_rfl)
            have e30 := e30 107 rfl
            obtain rfl : v30 = (.bool true) := s30
            clear y30
            obtain ⟨v20, s20, e20, y20⟩ := hp 20 (by kernel_rfl)
            have e20 := e20 97 rfl
            obtain rfl : v20 = (.bool false) := s20
            have y20 := y20 rfl
            clear hp hb
            refine wantL (by simp [Region.wanted, y20]) ⟨.bool false, w1, ?_, Ex.refl _ _, rfl⟩
            go_simp
          · intro o ho ρ yl w1 hx hc hf hgl hp hb
            simp only [List.getElem?_toArray, List.getElem?_cons_succ, List.getElem?_cons_zero, Option.some.injEq] at ho
            subst ho
            have hx := ((Ex.refl (fun _ => False) X4).drew).trans hx (fun _ h => h.elim)
            obtain ⟨v20, s20, e20, y20⟩ := hp 20 (by kernel_rfl)
            have e20 := e20 97 rfl
            obtain rfl : v20 = (.bool false) := s20
            clear y20
            obtain ⟨v31, s31, e31, y31⟩ := hp 31 (by kernel_rfl)
            have e31 := e31 108 rfl
            obtain rfl : v31 = (.bool false) := s31
            clear y31
            clear hp hb
            refine wantL rfl ⟨.bool false, w1, ?_, Ex.refl _ _, rfl⟩
            go_simp
        · intro i hil
          exact absurd hil (by simp)
        · intro xs w1 hx hs KQ hKK
          have s0 : xs 0 = (.int .i64 pre.length) := hs 0 (by omega)
          have s1 : xs 1 = (.pointer (some ⟨h, 0, none⟩)) := hs 1 (by omega)
          have s2 : xs 2 = (.pointer (some ⟨h, 0, none⟩)) := hs 2 (by omega)
          have s3 : xs 3 = (.pointer (some ⟨h, 0, none⟩)) := hs 3 (by omega)
          have s4 : xs 4 = (.slice (some ⟨gr, 0, none⟩) l.length cm) := hs 4 (by omega)
          have s5 : xs 5 = (.int .i64 l.length) := hs 5 (by omega)
          have s6 : xs 6 = (.bool false) := hs 6 (by omega)
          have s7 : xs 7 = (.bool false) := hs 7 (by omega)
          have s8 : xs 8 = (.agg #[.int .u8 r.k.f0, .int .i64 r.k.f1, .string r.k.f2, .slice r.A r.k.f3.length r.ca, .int .i64 r.k.f4]) := hs 8 (by omega)
          have s9 : xs 9 = (.pointer (some ⟨h, 0, none⟩)) := hs 9 (by omega)
          have s10 : xs 10 = (.pointer (some ⟨h, 0, none⟩)) := hs 10 (by omega)
          have s11 : xs 11 = (.pointer (some ⟨h, 0, none⟩)) := hs 11 (by omega)
          have s12 : xs 12 = (.slice (some ⟨gr, 0, none⟩) l.length cm) := hs 12 (by omega)
          have s13 : xs 13 = (.int .i64 pre.length) := hs 13 (by omega)
          have s14 : xs 14 = (.pointer (some ⟨gr, pre.length * 10, none⟩)) := hs 14 (by omega)
          have s15 : xs 15 = (.pointer (some ⟨gr, pre.length * 10, none⟩)) := hs 15 (by omega)
          have s16 : xs 16 = (.agg #[.int .u8 p.k.f0, .int .i64 p.k.f1, .string p.k.f2, .slice p.A p.k.f3.length p.c, .int .i64 p.k.f4]) := hs 16 (by omega)
          have s17 : xs 17 = (.bool true) := hs 17 (by omega)
          have s18 : xs 18 = (.bool false) := hs 18 (by omega)
          have s19 : xs 19 = (.bool false) := hs 19 (by omega)
          have s20 : xs 20 = (.bool false) := hs 20 (by omega)
          have s21 : xs 21 = (.agg #[.int .u8 r.v.f0, .int .i64 r.v.f1, .string r.v.f2, .slice r.B r.v.f3.length r.cb, .int .i64 r.v.f4]) := hs 21 (by omega)
          have s22 : xs 22 = (.pointer (some ⟨h, 0, none⟩)) := hs 22 (by omega)
          have s23 : xs 23 = (.pointer (some ⟨h, 0, none⟩)) := hs 23 (by omega)
          have s24 : xs 24 = (.pointer (some ⟨h, 0, none⟩)) := hs 24 (by omega)
          have s25 : xs 25 = (.slice (some ⟨gr, 0, none⟩) l.length cm) := hs 25 (by omega)
          have s26 : xs 26 = (.int .i64 pre.length) := hs 26 (by omega)
          have s27 : xs 27 = (.pointer (some ⟨gr, pre.length * 10, none⟩)) := hs 27 (by omega)
          have s28 : xs 28 = (.pointer (some ⟨gr, pre.length * 10 + 5, none⟩)) := hs 28 (by omega)
          have s29 : xs 29 = (.agg #[.int .u8 p.v.f0, .int .i64 p.v.f1, .string p.v.f2, .slice p.B p.v.f3.length p.d, .int .i64 p.v.f4]) := hs 29 (by omega)
          have s30 : xs 30 = (.bool true) := hs 30 (by omega)
          have s31 : xs 31 = (.bool false) := hs 31 (by omega)
          have s32 : xs 32 = (.bool false) := hs 32 (by omega)
          clear hs
          simp only [putSlots, dstOf, List.getElem?_toArray, List.getElem?_cons_succ, List.getElem?_cons_zero, Option.bind_some, List.setIfInBounds_toArray, List.set_cons_zero, List.set_cons_succ, List.drop_succ_cons, List.drop_zero]
          rw [s0, s1, s2, s3, s4, s5, s6, s7, s8, s9, s10, s11, s12, s13, s14, s15, s16, s17, s18, s19, s20, s21, s22, s23, s24, s25, s26, s27, s28, s29, s30, s31, s32]
          clear s0 s1 s2 s3 s4 s5 s6 s7 s8 s9 s10 s11 s12 s13 s14 s15 s16 s17 s18 s19 s20 s21 s22 s23 s24 s25 s26 s27 s28 s29 s30 s31 s32
          refine hKK _ _ ?_
          have HX4 := Aside0.mk hx
          have h8 := hx.blk HB8.out (fun h => h)
          have c8 := (blk_cell h8 0).trans rfl
          have f8 := blk_frozen h8 0
          have l8 := lt_of_blk h8
          clear hx hKK h8
          have HWC := Aside0.mk (show Ex (fun b => b = w.heap.size + 1 + 1 + 1 + 1) w1 (w1.setCell ⟨w.heap.size + 1 + 1 + 1 + 1, 0, none⟩ (.int .i64 ((pre.length + 1 : Nat) : Int))) from (Ex.refl (fun b => b = w.heap.size + 1 + 1 + 1 + 1) w1).set (p := ⟨w.heap.size + 1 + 1 + 1 + 1, 0, none⟩) (.inl rfl) _)
          have H8C := Aside0.mk (show (w1.setCell ⟨w.heap.size + 1 + 1 + 1 + 1, 0, none⟩ (.int .i64 ((pre.length + 1 : Nat) : Int))).heap[w.heap.size + 1 + 1 + 1 + 1]? = some (.cells #[.int .i64 ((pre.length + 1 : Nat) : Int)] 3 (0, 0)) from blk_put (HX4.out.blk HB8.out (fun h => h)) 0 _ rfl)
          have HEND := Aside0.mk (fun (st : LoopState) (pe : Option Code) => WJ.made (n := n) (W0 := W7) rfl rfl (by omega) (HWC.out.blk (HX4.out.blk HRL.out (fun h => h)) (by omega)) (HWC.out.blk (HX4.out.blk HRD.out (fun h => h)) (by omega)) (HWC.out.blk (HX4.out.blk HB4.out (fun h => h)) (by omega)) (HWC.out.blk (HX4.out.blk HB5.out (fun h => h)) (by omega)) (HWC.out.blk (HX4.out.blk HB6.out (fun h => h)) (by omega)) (HWC.out.blk (HX4.out.blk HB7.out (fun h => h)) (by omega)) H8C.out ((HEX.out.trans HX4.out (fun _ h => h.elim)).trans HWC.out (fun b hb => .inr (by omega))) st pe)
          have HRLC := Aside0.mk (HWC.out.blk (HX4.out.blk HRL.out (fun h => h)) (by omega))
          have HJDC := Aside0.mk (HWC.out.blk (HX4.out.blk HJD4.out (fun h => h)) (by omega))
          have HEXE := Aside0.mk (ex_putObj (l := W7.heap.size + 1) ((HG4.out.trans HX4.out (fun b hb => hb.elim)).trans HWC.out (fun b hb => .inl (.inl (by have := HSZ8.out; omega)))) (.inl (.inl (by have := HSZ8.out; omega))) (.loop (rec2.at .ready none)))
          gi_wp2
          exact ⟨HRLC.out, rfl, ⟨HEND.out .ready none, putObj_far HJDC.out (by omega) _⟩, HEXE.out⟩
      case hend2 =>
        rintro e W' ⟨hv, ⟨xs, hs, j, jD⟩ | ⟨pre, hF⟩⟩
        rotate_left
        · exact hF.elim
        refine ⟨hv, .inl ⟨j.rl, ?_⟩⟩
        clear hv
        have hxl : xs.length = l.length := by have := congrArg List.length (HREL.out.sorted hs); simpa using this
        have HRLEN := Aside0.mk HREL.out.len
        have h8' := j.b8
        rw [hxl] at h8'
        clear hs
        have HD0' := HD0.out
        have hxp : Ex (fun b => b = W7.heap.size + 1) W' (W'.putObj (W7.heap.size + 1) (.loop (rec2.at .exhausted none))) := ex_putObj (Ex.refl (fun b => b = W7.heap.size + 1) W') (.inl rfl) _
        have HC8 := Aside0.mk (hxp.blk h8' (by omega))
        have HC4 := Aside0.mk (hxp.blk j.b4 (by omega))
        have HC6 := Aside0.mk (hxp.blk j.b6 (by omega))
        have HCD := Aside0.mk (hxp.blk jD (by omega))
        have HCE := Aside0.mk (hxp.blk j.rd (by omega))
        have HCX := Aside0.mk (j.ex.trans hxp (fun b hb => .inr (by omega)))
        have HDD := Aside0.mk (show W0.heap.size ≠ W7.heap.size ∧ w.heap.size ≤ W0.heap.size ∧ w.heap.size ≤ W7.heap.size by omega)
        generalize W'.putObj (W7.heap.size + 1) (.loop (rec2.at .exhausted none)) = W9 at hxp HC4 HC6 HC8 HCD HCE HCX ⊢
        clear hxp jD j h8' hxl hmid hl1 hl0 hsz1 hrt hrp hra hrb hrD hs7 HD0' HD0 HCL HE4 HE5 HE6 HE7 HE8 HED HEXX
        clear W8 W'
        go_wp2_with fail
        refine region_by 17 [] (specL [Is (.int .i64 l.length), Is (.pointer (some ⟨h, 0, none⟩)), Is (.pointer (some ⟨h, 0, none⟩)), Is (.pointer (some ⟨h, 0, none⟩)), Is (.slice M l.length cm), Is (.int .i64 l.length), Is (.bool true), Is (.bool true), Is (.pointer (some ⟨g, 0, none⟩)), Is (.int .i64 l.length), Is (.pointer (some ⟨h, 0, none⟩)), Is (.pointer (some ⟨h, 0, none⟩)), Is (.pointer (some ⟨h, 0, none⟩)), Is (.slice M l.length cm), Is (.int .i64 l.length), Is (.bool true), Is (.bool true)]) (by decide) (by decide) (by kernel_rfl) (by kernel_rfl) (stab_all (stab_cons (stab_is _) (stab_cons (stab_is _) (stab_cons (stab_is _) (stab_cons (stab_is _) (stab_cons (stab_is _) (stab_cons (stab_is _) (stab_cons (stab_is _) (stab_cons (stab_is _) (stab_cons (stab_is _) (stab_cons (stab_is _) (stab_cons (stab_is _) (stab_cons (stab_is _) (stab_cons (stab_is _) (stab_cons (stab_is _) (stab_cons (stab_is _) (stab_cons (stab_is _) (stab_cons (stab_is _) (stab_nil))))))))))))))))))) ?_ ?_ ?_
        · intro i hi hnl
          obtain rfl | rfl | rfl | rfl | rfl | rfl | rfl | rfl | rfl | rfl | rfl | rfl | rfl | rfl | rfl | rfl | rfl : i = 0 ∨ i = 1 ∨ i = 2 ∨ i = 3 ∨ i = 4 ∨ i = 5 ∨ i = 6 ∨ i = 7 ∨ i = 8 ∨ i = 9 ∨ i = 10 ∨ i = 11 ∨ i = 12 ∨ i = 13 ∨ i = 14 ∨ i = 15 ∨ i = 16 := by omega
          · intro o ho ρ yl w1 hx hc hf hgl hp hb
            simp only [List.getElem?_toArray, List.getElem?_cons_succ, List.getElem?_cons_zero, Option.some.injEq] at ho
            subst ho
            have hx := ((Ex.refl (fun _ => False) W9).drew).trans hx (fun _ h => h.elim)
            have b8 := hb 8 (by kernel_rfl)
            clear hp hb
            have hb := hx.blk HC8.out (fun h => h)
            have c0 := (blk_cell hb 0).trans rfl
            have cl := lt_of_blk hb
            refine wantL rfl ⟨.int .i64 l.length, w1, ?_, Ex.refl _ _, rfl⟩
            go_simp
          · intro o ho ρ yl w1 hx hc hf hgl hp hb
            simp only [List.getElem?_toArray, List.getElem?_cons_succ, List.getElem?_cons_zero, Option.some.injEq] at ho
            subst ho
            have hx := ((Ex.refl (fun _ => False) W9).drew).trans hx (fun _ h => h.elim)
            have b4 := hb 4 (by kernel_rfl)
            clear hp hb
            have hb := hx.blk HC4.out (fun h => h)
            have c0 := (blk_cell hb 0).trans rfl
            have cl := lt_of_blk hb
            refine wantL rfl ⟨.pointer (some ⟨h, 0, none⟩), w1, ?_, Ex.refl _ _, rfl⟩
            go_simp
          · intro o ho ρ yl w1 hx hc hf hgl hp hb
            simp only [List.getElem?_toArray, List.getElem?_cons_succ, List.getElem?_cons_zero, Option.some.injEq] at ho
            subst ho
            have hx := ((Ex.refl (fun _ => False) W9).drew).trans hx (fun _ h => h.elim)
            obtain ⟨v1, s1, e1, y1⟩ := hp 1 (by kernel_rfl)
            have e1 := e1 113 rfl
            obtain rfl : v1 = (.pointer (some ⟨h, 0, none⟩)) := s1
            clear y1
            clear hp hb
            have hh := (HCX.out.trans hx (fun _ h => h.elim)).blk HR.out.hh (fun h => h)
            have c0 := (blk_cell hh 0).trans rfl
            have hhl := lt_of_blk hh
            refine wantL rfl ⟨.pointer (some ⟨h, 0, none⟩), w1, ?_, Ex.refl _ _, rfl⟩
            go_simp
          · intro o ho ρ yl w1 hx hc hf hgl hp hb
            simp only [List.getElem?_toArray, List.getElem?_cons_succ, List.getElem?_cons_zero, Option.some.injEq] at ho
            subst ho
            have hx := ((Ex.refl (fun _ => False) W9).drew).trans hx (fun _ h => h.elim)
            obtain ⟨v2, s2, e2, y2⟩ := hp 2 (by kernel_rfl)
            have e2 := e2 114 rfl
            obtain rfl : v2 = (.pointer (some ⟨h, 0, none⟩)) := s2
            clear y2
            clear hp hb
            have hh := (HCX.out.trans hx (fun _ h => h.elim)).blk HR.out.hh (fun h => h)
            have c0 := (blk_cell hh 0).trans rfl
            have hhl := lt_of_blk hh
            refine wantL rfl ⟨.pointer (some ⟨h, 0, none⟩), w1, ?_, Ex.refl _ _, rfl⟩
            go_simp
          · intro o ho ρ yl w1 hx hc hf hgl hp hb
            simp only [List.getElem?_toArray, List.getElem?_cons_succ, List.getElem?_cons_zero, Option.some.injEq] at ho
            subst ho
            have hx := ((Ex.refl (fun _ => False) W9).drew).trans hx (fun _ h => h.elim)
            obtain ⟨v3, s3, e3, y3⟩ := hp 3 (by kernel_rfl)
            have e3 := e3 115 rfl
            obtain rfl : v3 = (.pointer (some ⟨h, 0, none⟩)) := s3
            clear y3
            clear hp hb
            have hh := (HCX.out.trans hx (fun _ h => h.elim)).blk HR.out.hh (fun h => h)
            have c0 := (blk_cell hh 0).trans rfl
            have hhl := lt_of_blk hh
            refine wantL rfl ⟨.slice M l.length cm, w1, ?_, Ex.refl _ _, rfl⟩
            go_simp
          · intro o ho ρ yl w1 hx hc hf hgl hp hb
            simp only [List.getElem?_toArray, List.getElem?_cons_succ, List.getElem?_cons_zero, Option.some.injEq] at ho
            subst ho
            have hx := ((Ex.refl (fun _ => False) W9).drew).trans hx (fun _ h => h.elim)
            obtain ⟨v4, s4, e4, y4⟩ := hp 4 (by kernel_rfl)
            have e4 := e4 116 rfl
            obtain rfl : v4 = (.slice M l.length cm) := s4
            clear y4
            clear hp hb
            refine wantL rfl ⟨.int .i64 l.length, w1, ?_, Ex.refl _ _, rfl⟩
            go_simp
          · intro o ho ρ yl w1 hx hc hf hgl hp hb
            simp only [List.getElem?_toArray, List.getElem?_cons_succ, List.getElem?_cons_zero, Option.some.injEq] at ho
            subst ho
            have hx := ((Ex.refl (fun _ => False) W9).drew).trans hx (fun _ h => h.elim)
            obtain ⟨v0, s0, e0, y0⟩ := hp 0 (by kernel_rfl)
            have e0 := e0 112 rfl
            obtain rfl : v0 = (.int .i64 l.length) := s0
            clear y0
            obtain ⟨v5, s5, e5, y5⟩ := hp 5 (by kernel_rfl)
            have e5 := e5 117 rfl
            obtain rfl : v5 = (.int .i64 l.length) := s5
            clear y5
            clear hp hb
            refine wantL rfl ⟨.bool true, w1, ?_, Ex.refl _ _, rfl⟩
            go_simp
          · intro o ho ρ yl w1 hx hc hf hgl hp hb
            simp only [List.getElem?_toArray, List.getElem?_cons_succ, List.getElem?_cons_zero, Option.some.injEq] at ho
            subst ho
            have hx := ((Ex.refl (fun _ => False) W9).drew).trans hx (fun _ h => h.elim)
            obtain ⟨v6, s6, e6, y6⟩ := hp 6 (by kernel_rfl)
            have e6 := e6 118 rfl
            obtain rfl : v6 = (.bool true) := s6
            clear y6
            clear hp hb
            refine wantL rfl ⟨.bool true, w1, ?_, Ex.refl _ _, rfl⟩
            go_simp
          · intro o ho ρ yl w1 hx hc hf hgl hp hb
            simp only [List.getElem?_toArray, List.getElem?_cons_succ, List.getElem?_cons_zero, Option.some.injEq] at ho
            subst ho
            have hx := ((Ex.refl (fun _ => False) W9).drew).trans hx (fun _ h => h.elim)
            obtain ⟨v7, s7, e7, y7⟩ := hp 7 (by kernel_rfl)
            have e7 := e7 119 rfl
            obtain rfl : v7 = (.bool true) := s7
            have y7 := y7 rfl
            have b0 := hb 0 (by kernel_rfl)
            clear hp hb
            refine wantL (by simp [Region.wanted, y7]) ⟨.pointer (some ⟨g, 0, none⟩), w1, ?_, Ex.refl _ _, rfl⟩
            go_simp
          · intro o ho ρ yl w1 hx hc hf hgl hp hb
            simp only [List.getElem?_toArray, List.getElem?_cons_succ, List.getElem?_cons_zero, Option.some.injEq] at ho
            subst ho
            have hx := ((Ex.refl (fun _ => False) W9).drew).trans hx (fun _ h => h.elim)
            obtain ⟨v8, s8, e8, y8⟩ := hp 8 (by kernel_rfl)
            have e8 := e8 120 rfl
            obtain rfl : v8 = (.pointer (some ⟨g, 0, none⟩)) := s8
            clear y8
            obtain ⟨v7, s7, e7, y7⟩ := hp 7 (by kernel_rfl)
            have e7 := e7 119 rfl
            obtain rfl : v7 = (.bool true) := s7
            have y7 := y7 rfl
            clear hp hb
            refine wantR (by simp [Region.wanted, y7]) ⟨17, #[.pointer (some ⟨g, 0, none⟩)], exec_call' Try.func17 (by kernel_rfl) rfl _ rfl (by simp [e8]) (hf 17), ?_⟩
            refine (len_calls g mb ob T rows came _ (HT.out.ex0 (HCX.out.trans hx (fun _ h => h.elim)))).mono ?_
            rintro e' wq ⟨rfl, rfl⟩
            exact ⟨_, rfl, Ex.refl _ _, by rw [HRLEN.out]; rfl⟩
          · intro o ho ρ yl w1 hx hc hf hgl hp hb
            simp only [List.getElem?_toArray, List.getElem?_cons_succ, List.getElem?_cons_zero, Option.some.injEq] at ho
            subst ho
            have hx := ((Ex.refl (fun _ => False) W9).drew).trans hx (fun _ h => h.elim)
            obtain ⟨v7, s7, e7, y7⟩ := hp 7 (by kernel_rfl)
            have e7 := e7 119 rfl
            obtain rfl : v7 = (.bool true) := s7
            have y7 := y7 rfl
            have b4 := hb 4 (by kernel_rfl)
            clear hp hb
            have hb := hx.blk HC4.out (fun h => h)
            have c0 := (blk_cell hb 0).trans rfl
            have cl := lt_of_blk hb
            refine wantL (by simp [Region.wanted, y7]) ⟨.pointer (some ⟨h, 0, none⟩), w1, ?_, Ex.refl _ _, rfl⟩
            go_simp
          · intro o ho ρ yl w1 hx hc hf hgl hp hb
            simp only [List.getElem?_toArray, List.getElem?_cons_succ, List.getElem?_cons_zero, Option.some.injEq] at ho
            subst ho
            have hx := ((Ex.refl (fun _ => False) W9).drew).trans hx (fun _ h => h.elim)
            obtain ⟨v10, s10, e10, y10⟩ := hp 10 (by kernel_rfl)
            have e10 := e10 122 rfl
            obtain rfl : v10 = (.pointer (some ⟨h, 0, none⟩)) := s10
            clear y10
            obtain ⟨v7, s7, e7, y7⟩ := hp 7 (by kernel_rfl)
            have e7 := e7 119 rfl
            obtain rfl : v7 = (.bool true) := s7
            have y7 := y7 rfl
            clear hp hb
            have hh := (HCX.out.trans hx (fun _ h => h.elim)).blk HR.out.hh (fun h => h)
            have c0 := (blk_cell hh 0).trans rfl
            have hhl := lt_of_blk hh
            refine wantL (by simp [Region.wanted, y7]) ⟨.pointer (some ⟨h, 0, none⟩), w1, ?_, Ex.refl _ _, rfl⟩
            go_simp
          · intro o ho ρ yl w1 hx hc hf hgl hp hb
            simp only [List.getElem?_toArray, List.getElem?_cons_succ, List.getElem?_cons_zero, Option.some.injEq] at ho
            subst ho
            have hx := ((Ex.refl (fun _ => False) W9).drew).trans hx (fun _ h => h.elim)
            obtain ⟨v11, s11, e11, y11⟩ := hp 11 (by kernel_rfl)
            have e11 := e11 123 rfl
            obtain rfl : v11 = (.pointer (some ⟨h, 0, none⟩)) := s11
            clear y11
            obtain ⟨v7, s7, e7, y7⟩ := hp 7 (by kernel_rfl)
            have e7 := e7 119 rfl
            obtain rfl : v7 = (.bool true) := s7
            have y7 := y7 rfl
            clear hp hb
            have hh := (HCX.out.trans hx (fun _ h => h.elim)).blk HR.out.hh (fun h => h)
            have c0 := (blk_cell hh 0).trans rfl
            have hhl := lt_of_blk hh
            refine wantL (by simp [Region.wanted, y7]) ⟨.pointer (some ⟨h, 0, none⟩), w1, ?_, Ex.refl _ _, rfl⟩
            go_simp
          · intro o ho ρ yl w1 hx hc hf hgl hp hb
            simp only [List.getElem?_toArray, List.getElem?_cons_succ, List.getElem?_cons_zero, Option.some.injEq] at ho
            subst ho
            have hx := ((Ex.refl (fun _ => False) W9).drew).trans hx (fun _ h => h.elim)
            obtain ⟨v12, s12, e12, y12⟩ := hp 12 (by kernel_rfl)
            have e12 := e12 124 rfl
            obtain rfl : v12 = (.pointer (some ⟨h, 0, none⟩)) := s12
            clear y12
            obtain ⟨v7, s7, e7, y7⟩ := hp 7 (by kernel_rfl)
            have e7 := e7 119 rfl
            obtain rfl : v7 = (.bool true) := s7
            have y7 := y7 rfl
            clear hp hb
            have hh := (HCX.out.trans hx (fun _ h => h.elim)).blk HR.out.hh (fun h => h)
            have c0 := (blk_cell hh 0).trans rfl
            have hhl := lt_of_blk hh
            refine wantL (by simp [Region.wanted, y7]) ⟨.slice M l.length cm, w1, ?_, Ex.refl _ _, rfl⟩
            go_simp
          · intro o ho ρ yl w1 hx hc hf hgl hp hb
            simp only [List.getElem?_toArray, List.getElem?_cons_succ, List.getElem?_cons_zero, Option.some.injEq] at ho
            subst ho
            have hx := ((Ex.refl (fun _ => False) W9).drew).trans hx (fun _ h => h.elim)
            obtain ⟨v13, s13, e13, y13⟩ := hp 13 (by kernel_rfl)
            have e13 := e13 125 rfl
            obtain rfl : v13 = (.slice M l.length cm) := s13
            clear y13
            obtain ⟨v7, s7, e7, y7⟩ := hp 7 (by kernel_rfl)
            have e7 := e7 119 rfl
            obtain rfl : v7 = (.bool true) := s7
            have y7 := y7 rfl
            clear hp hb
            refine wantL (by simp [Region.wanted, y7]) ⟨.int .i64 l.length, w1, ?_, Ex.refl _ _, rfl⟩
            go_simp
          · intro o ho ρ yl w1 hx hc hf hgl hp hb
            simp only [List.getElem?_toArray, List.getElem?_cons_succ, List.getElem?_cons_zero, Option.some.injEq] at ho
            subst ho
            have hx := ((Ex.refl (fun _ => False) W9).drew).trans hx (fun _ h => h.elim)
            obtain ⟨v9, s9, e9, y9⟩ := hp 9 (by kernel_rfl)
            have e9 := e9 121 rfl
            obtain rfl : v9 = (.int .i64 l.length) := s9
            clear y9
            obtain ⟨v14, s14, e14, y14⟩ := hp 14 (by kernel_rfl)
            have e14 := e14 126 rfl
            obtain rfl : v14 = (.int .i64 l.length) := s14
            clear y14
            obtain ⟨v7, s7, e7, y7⟩ := hp 7 (by kernel_rfl)
            have e7 := e7 119 rfl
            obtain rfl : v7 = (.bool true) := s7
            have y7 := y7 rfl
            clear hp hb
            refine wantL (by simp [Region.wanted, y7]) ⟨.bool true, w1, ?_, Ex.refl _ _, rfl⟩
            go_simp
          · intro o ho ρ yl w1 hx hc hf hgl hp hb
            simp only [List.getElem?_toArray, List.getElem?_cons_succ, List.getElem?_cons_zero, Option.some.injEq] at ho
            subst ho
            have hx := ((Ex.refl (fun _ => False) W9).drew).trans hx (fun _ h => h.elim)
            obtain ⟨v7, s7, e7, y7⟩ := hp 7 (by kernel_rfl)
            have e7 := e7 119 rfl
            obtain rfl : v7 = (.bool true) := s7
            clear y7
            obtain ⟨v15, s15, e15, y15⟩ := hp 15 (by kernel_rfl)
            have e15 := e15 127 rfl
            obtain rfl : v15 = (.bool true) := s15
            clear y15
            clear hp hb
            refine wantL rfl ⟨.bool true, w1, ?_, Ex.refl _ _, rfl⟩
            go_simp
        · intro i hil
          exact absurd hil (by simp)
        · intro xs w1 hx hs KQ hKK
          have s0 : xs 0 = (.int .i64 l.length) := hs 0 (by omega)
          have s1 : xs 1 = (.pointer (some ⟨h, 0, none⟩)) := hs 1 (by omega)
          have s2 : xs 2 = (.pointer (some ⟨h, 0, none⟩)) := hs 2 (by omega)
          have s3 : xs 3 = (.pointer (some ⟨h, 0, none⟩)) := hs 3 (by omega)
          have s4 : xs 4 = (.slice M l.length cm) := hs 4 (by omega)
          have s5 : xs 5 = (.int .i64 l.length) := hs 5 (by omega)
          have s6 : xs 6 = (.bool true) := hs 6 (by omega)
          have s7 : xs 7 = (.bool true) := hs 7 (by omega)
          have s8 : xs 8 = (.pointer (some ⟨g, 0, none⟩)) := hs 8 (by omega)
          have s9 : xs 9 = (.int .i64 l.length) := hs 9 (by omega)
          have s10 : xs 10 = (.pointer (some ⟨h, 0, none⟩)) := hs 10 (by omega)
          have s11 : xs 11 = (.pointer (some ⟨h, 0, none⟩)) := hs 11 (by omega)
          have s12 : xs 12 = (.pointer (some ⟨h, 0, none⟩)) := hs 12 (by omega)
          have s13 : xs 13 = (.slice M l.length cm) := hs 13 (by omega)
          have s14 : xs 14 = (.int .i64 l.length) := hs 14 (by omega)
          have s15 : xs 15 = (.bool true) := hs 15 (by omega)
          have s16 : xs 16 = (.bool true) := hs 16 (by omega)
          clear hs
          simp only [putSlots, dstOf, List.getElem?_toArray, List.getElem?_cons_succ, List.getElem?_cons_zero, Option.bind_some, List.setIfInBounds_toArray, List.set_cons_zero, List.set_cons_succ, List.drop_succ_cons, List.drop_zero]
          rw [s0, s1, s2, s3, s4, s5, s6, s7, s8, s9, s10, s11, s12, s13, s14, s15, s16]
          clear s0 s1 s2 s3 s4 s5 s6 s7 s8 s9 s10 s11 s12 s13 s14 s15 s16
          have HX9 := Aside0.mk hx
          have h6 := hx.blk HC6.out (fun h => h)
          have c6 := (blk_cell h6 0).trans rfl
          have f6 := blk_frozen h6 0
          have l6 := lt_of_blk h6
          have H6 := Aside0.mk h6
          clear hx h6
          go_wp2_with fail
          have HS6 := Aside0.mk (show Ex (fun b => b = w.heap.size + 1 + 1) w1 (w1.setCell ⟨w.heap.size + 1 + 1, 0, none⟩ (.bool true)) from (Ex.refl (fun b => b = w.heap.size + 1 + 1) w1).set (p := ⟨w.heap.size + 1 + 1, 0, none⟩) (.inl rfl) _)
          have HE0 := Aside0.mk (HS6.out.blk (HX9.out.blk HCD.out (fun h => h)) (by have := ne_of_blk (HX9.out.blk HCD.out (fun h => h)) H6.out (by simp); exact this))
          have HE1 := Aside0.mk (HS6.out.blk (HX9.out.blk HCE.out (fun h => h)) (by have := ne_of_blk (HX9.out.blk HCE.out (fun h => h)) H6.out (by simp); exact this))
          refine ⟨by simp, .inl ⟨W7.heap.size, _, rfl, run_takeDeferred HE1.out, ?_⟩⟩
          refine ⟨by simp, .inl ⟨W0.heap.size, _, rfl, run_takeDeferred (putObj_far HE0.out HDD.out.1 _), ?_⟩⟩
          refine ⟨.bool true, results_cellv rfl _ _ (w.heap.size + 1 + 1) true (0, 0) rfl (putObj_far (putObj_far (blk_put H6.out 0 _ rfl) (ne_of_blk H6.out (HX9.out.blk HCE.out (fun h => h)) (by simp)) _) (ne_of_blk H6.out (HX9.out.blk HCD.out (fun h => h)) (by simp)) _), rfl, ?_⟩
          exact ex_putObj (ex_putObj ((HCX.out.trans HX9.out (fun _ h => h.elim)).trans HS6.out (fun b hb => .inr (by omega))) (.inr HDD.out.2.2) _) (.inr HDD.out.2.1) _
end Go.Proofs.Ythkemcekcfccpaa.PBrandCompares
end
section
namespace Go.Proofs.Ythkemcekcfccpaa.PBrandCompares
open Go.RowKit Go.Proofs.YthkemcekcfccpaaW.PrintWords Go.Proofs.YthkemcekcfccpaaW.PrintLast Go.Proofs.YthkemcekcfccpaaW.PrintMore
open Go.Proofs.Ythkemcekcfccpaa.GBrandCompares
set_option linter.unusedVariables false
set_option linter.unusedSimpArgs false
abbrev partsE (x : S27) (d : Int) (k : Nat) : Option Int := posternref04_parts.f k x.f0 x.f1 x.f2 x.f3 x.f4 d
abbrev partsLE (x : S27) (d n i : Int) (k : Nat) : Option Int := posternref04_parts.l0 k d n i x.f0 x.f1 x.f2 x.f3 x.f4
mutual
def hgt : S27 → Nat
  | ⟨_, _, _, l, _⟩ => hgtL l
def hgtL : List S27 → Nat
  | [] => 0
  | x :: l => max (hgt x + 1) (hgtL l)
end
theorem hgt_eq (x : S27) : hgt x = hgtL x.f3 := by cases x; rfl
theorem hgtL_le {l : List S27} {d : Nat} : hgtL l ≤ d ↔ ∀ y ∈ l, hgt y + 1 ≤ d := by
  induction l with
  | nil => simp [hgtL]
  | cons x l ih => simp only [hgtL, Nat.max_le, ih, List.mem_cons, forall_eq_or_imp]
def Parts (x : S27) (d : Nat) (r : Int) : Prop := (1 ≤ r ∧ r ≤ 513 + 512 * (17 - d : Nat)) ∧ (r ≤ 512 ↔ nodes x ≤ 512 ∧ d + hgt x ≤ 16) ∧ (r ≤ 512 → r = nodes x)
theorem parts_loop (x : S27) (d : Nat) (hd : d ≤ 16) (hl : x.f3.length ≤ 9223372036854775807) (hel : ∀ i, i < x.f3.length → ∃ r, Ev (partsE (rd_T27 x.f3 i) ((d : Int) + 1)) r ∧ Parts (rd_T27 x.f3 i) (d + 1) r) :
    ∀ (m i : Nat) (n : Int), m + i = x.f3.length → 1 ≤ n → n ≤ 513 + 512 * (17 - d : Nat) → ∃ r, Ev (partsLE x d n i) r ∧ (n ≤ r ∧ r ≤ 513 + 512 * (17 - d : Nat)) ∧
      (r ≤ 512 ↔ n + nodesL (x.f3.drop i) ≤ 512 ∧ ∀ y ∈ x.f3.drop i, d + 1 + hgt y ≤ 16) ∧ (r ≤ 512 → r = n + nodesL (x.f3.drop i)) := by
  intro m
  induction m with
  | zero =>
    intro i n hi hn hn2
    refine ⟨n, Ev.step (f := fun k => some n) (fun k => ?_) (Ev.now n), ⟨by omega, hn2⟩, ?_, ?_⟩
    · simp only [partsLE, posternref04_parts.l0]; rw [if_neg (by omega)]
    · rw [List.drop_eq_nil_of_le (by omega)]; simp [nodesL]
    · rw [List.drop_eq_nil_of_le (by omega)]; simp [nodesL]
  | succ m ih =>
    intro i n hi hn hn2
    have hlt : i < x.f3.length := by omega
    rw [drop_rd hlt]
    by_cases h512 : n ≤ 512
    · obtain ⟨r1, hr1, hb1, hi1, he1⟩ := hel i hlt
      have hw : wrap64 (n + r1) = n + r1 := wrap_id (by omega) (by omega)
      obtain ⟨r, hr, hb, hi2, he2⟩ := ih (i + 1) (n + r1) (by omega) (by omega) (by omega)
      refine ⟨r, Ev.step (f := fun k => (partsE (rd_T27 x.f3 i) ((d : Int) + 1) k).bind fun t => partsLE x d (wrap64 (n + t)) ((i + 1 : Nat) : Int) k) (fun k => ?_) (Ev.bind hr1 (by simp only [hw]; exact hr)), ⟨by omega, hb.2⟩, ?_, ?_⟩
      · simp only [partsLE, posternref04_parts.l0]
        rw [if_pos (by omega), if_pos h512, if_pos (by omega), wrap_id (n := (d : Int) + 1) (by omega) (by omega), wrap_id (n := (i : Int) + 1) (by omega) (by omega)]
        rfl
      · simp only [nodesL, List.mem_cons, forall_eq_or_imp]
        have hp := nodes_pos (rd_T27 x.f3 i)
        constructor
        · intro h
          have h2 := hi2.1 h
          have h3 := hi1.1 (by omega)
          have h4 := he1 (by omega)
          exact ⟨by omega, by omega, h2.2⟩
        · rintro ⟨h, h2, h3⟩
          have h4 := hi1.2 ⟨by omega, by omega⟩
          have h5 := he1 h4
          exact hi2.2 ⟨by omega, h3⟩
      · intro h
        have h2 := hi2.1 h
        have h4 := he1 (by omega)
        have h5 := he2 h
        simp only [nodesL]
        omega
    · refine ⟨n, Ev.step (f := fun k => some n) (fun k => ?_) (Ev.now n), ⟨by omega, hn2⟩, ?_, fun h => absurd h h512⟩
      · simp only [partsLE, posternref04_parts.l0]; rw [if_pos (by omega), if_neg h512]
      · constructor
        · intro h; omega
        · intro h; have := h.1; omega
theorem parts_ev (x : S27) : ∀ d : Nat, d ≤ 17 → Wf x → ∃ r, Ev (partsE x d) r ∧ Parts x d r := by
  induction x using S27.ind with
  | h x ih =>
    intro d hd hw
    have hk : ∀ b : Bool, b = decide ((d : Int) > 16) → ∃ r, Ev (fun k => posternref04_parts.j0 k (d : Int) 1 b x.f0 x.f1 x.f2 x.f3 x.f4) r ∧ Parts x d r := by
      intro b hb
      have hpos := nodes_pos x
      by_cases h16 : d ≤ 16
      · have hb' : b = false := by rw [hb]; simp; omega
        subst hb'
        obtain ⟨r, hr, hb1, hi1, he1⟩ := parts_loop x d h16 hw.len (fun i hi => by
          have h := ih _ (rd_mem hi) (d + 1) (by omega) (hw.rd hi)
          simpa only [Int.natCast_add, Int.cast_ofNat_Int] using h) x.f3.length 0 1 (by omega) (by omega) (by omega)
        refine ⟨r, Ev.step (f := fun k => partsLE x d 1 0 k) (fun k => ?_) (by simpa using hr), ⟨by omega, by omega⟩, ?_, ?_⟩
        · simp [posternref04_parts.j0]
        · rw [hi1, hgt_eq, nodes_eq]
          simp only [List.drop_zero]
          have := @hgtL_le x.f3 (16 - d)
          constructor
          · rintro ⟨h1, h2⟩
            have h3 := this.2 (fun y hy => by have := h2 y hy; omega)
            exact ⟨by omega, by omega⟩
          · rintro ⟨h1, h2⟩
            have h3 := this.1 (by omega)
            exact ⟨by omega, fun y hy => by have := h3 y hy; omega⟩
        · intro h
          have h1 := he1 h
          simp only [List.drop_zero] at h1
          rw [h1, nodes_eq]; omega
      · have hb' : b = true := by rw [hb]; simp; omega
        subst hb'
        refine ⟨513, Ev.step (f := fun k => some 513) (fun k => ?_) (Ev.now _), ⟨by omega, by omega⟩, ?_, fun h => by omega⟩
        · simp [posternref04_parts.j0]
        · omega
    by_cases h16 : (d : Int) > 16
    · by_cases h3 : wrap64 x.f0 = 3
      · obtain ⟨r, hr, hp⟩ := hk true (by simp [h16])
        exact ⟨r, Ev.step (fun k => by simp only [partsE, posternref04_parts.f]; rw [if_pos h16, if_pos h3]) hr, hp⟩
      · obtain ⟨r, hr, hp⟩ := hk (decide ((d : Int) > 16)) rfl
        exact ⟨r, Ev.step (fun k => by simp only [partsE, posternref04_parts.f]; rw [if_pos h16, if_neg h3]) hr, hp⟩
    · obtain ⟨r, hr, hp⟩ := hk (decide ((d : Int) > 16)) rfl
      exact ⟨r, Ev.step (fun k => by simp only [partsE, posternref04_parts.f]; rw [if_neg h16]) hr, hp⟩
abbrev deepE (x : S27) (k : Nat) : Option Int := posternref04_deep.f k x.f0 x.f1 x.f2 x.f3 x.f4
abbrev deepLE (x : S27) (n i : Int) (k : Nat) : Option Int := posternref04_deep.l0 k n i x.f0 x.f1 x.f2 x.f3 x.f4
theorem nest_nodes (x : S27) : nest x ≤ nodes x := by
  induction x using S27.ind with
  | h x ih =>
    by_cases h3 : x.f0 = 3
    · rw [nest_list h3, nodes_eq]
      have : nestL x.f3 ≤ nodesL x.f3 := nestL_le.2 fun y hy => by have := ih y hy; have := nodesL_mem hy; omega
      omega
    · rw [nest_plain h3]; omega
theorem deep_ev (x : S27) : nodes x ≤ 512 → Wf x → Ev (deepE x) (nest x : Int) := by
  induction x using S27.ind with
  | h x ih =>
    intro hn hw
    have hnx := nodes_eq x
    by_cases h3 : x.f0 = 3
    · have hll := nodesL_len x.f3
      have hloop : ∀ (m i : Nat) (n : Nat), m + i = x.f3.length → n ≤ 512 → Ev (deepLE x n i) ((max n (nestL (x.f3.drop i)) + 1 : Nat) : Int) := by
        intro m
        induction m with
        | zero =>
          intro i n hi hn'
          refine Ev.step (f := fun k => some (wrap64 ((n : Int) + 1))) (fun k => ?_) ?_
          · simp only [deepLE, posternref04_deep.l0]; rw [if_neg (by omega)]
          · rw [List.drop_eq_nil_of_le (by omega), wrap_id (by omega) (by omega)]
            simpa [nestL] using Ev.now ((n : Int) + 1)
        | succ m ihm =>
          intro i n hi hn'
          have hlt : i < x.f3.length := by omega
          rw [drop_rd hlt]
          have hy := rd_mem hlt
          have hno := nodesL_mem hy
          have hnn := nest_nodes (rd_T27 x.f3 i)
          have h1 := ih _ hy (by omega) (hw.rd hlt)
          have h2 := ihm (i + 1) (max n (nest (rd_T27 x.f3 i))) (by omega) (by omega)
          have hmx : mx (n : Int) (nest (rd_T27 x.f3 i) : Int) = ((max n (nest (rd_T27 x.f3 i)) : Nat) : Int) := by unfold mx; omega
          rw [show max n (nestL (rd_T27 x.f3 i :: x.f3.drop (i + 1))) = max (max n (nest (rd_T27 x.f3 i))) (nestL (x.f3.drop (i + 1))) by simp only [nestL]; omega]
          refine Ev.step (f := fun k => (deepE (rd_T27 x.f3 i) k).bind fun t => deepLE x (mx n t) ((i + 1 : Nat) : Int) k) (fun k => ?_) (Ev.bind h1 (by simp only [hmx]; exact h2))
          simp only [deepLE, posternref04_deep.l0]
          rw [if_pos (by omega), if_pos (by omega), wrap_id (n := (i : Int) + 1) (by omega) (by omega)]
          rfl
      have h := hloop x.f3.length 0 0 (by omega) (by omega)
      rw [nest_list h3]
      refine Ev.step (fun k => ?_) (by simpa using h)
      simp only [deepE, posternref04_deep.f]
      rw [if_pos (by rw [h3]; exact wrap_id (by omega) (by omega))]
    · rw [nest_plain h3]
      have := hw.lo
      have := hw.hi
      refine Ev.step (f := fun k => some 0) (fun k => ?_) (Ev.now _)
      simp only [deepE, posternref04_deep.f]
      rw [if_neg (by rw [wrap_id (by omega) (by omega)]; exact h3)]
abbrev fieldsE (x : S27) (k : Nat) : Option Bool := posternref04_fields.f k x.f0 x.f1 x.f2 x.f3 x.f4
abbrev fieldsLE (x : S27) (i : Int) (k : Nat) : Option Bool := posternref04_fields.l0 k i x.f0 x.f1 x.f2 x.f3 x.f4
theorem size_nil (s : ByteArray) : s.toList = ([] : List UInt8) ↔ s.size = 0 := toList_nil s
theorem field_ev (x : S27) (hw : Wf x) : ∃ b, posternref04_field.f x.f0 x.f1 x.f2 x.f3 x.f4 = some b ∧ (b = true ↔ Field x) := by
  have h0 := hw.lo
  have h1 := hw.hi
  unfold posternref04_field.f Field
  rw [wrap_id (n := x.f0) (by omega) (by omega)]
  simp only [size_nil]
  repeat' split
  all_goals refine ⟨_, rfl, ?_⟩
  all_goals try simp only [beq_iff_eq, decide_eq_true_eq]
  all_goals first | omega | (refine ⟨fun h => by simp at h, fun h => by omega⟩)
theorem fields_ev (x : S27) : Wf x → ∃ b, Ev (fieldsE x) b ∧ (b = true ↔ Fields x) := by
  induction x using S27.ind with
  | h x ih =>
    intro hw
    have hlen := hw.len
    have hloop : ∀ (m i : Nat), m + i = x.f3.length → ∃ b, Ev (fieldsLE x i) b ∧ (b = true ↔ (∀ y ∈ x.f3.drop i, Fields y) ∧ Field x) := by
      intro m
      induction m with
      | zero =>
        intro i hi
        obtain ⟨b, hb, hf⟩ := field_ev x hw
        refine ⟨b, Ev.step (f := fun k => some b) (fun k => ?_) (Ev.now b), ?_⟩
        · simp only [fieldsLE, posternref04_fields.l0]; rw [if_neg (by omega), hb]; rfl
        · rw [List.drop_eq_nil_of_le (by omega), hf]; simp
      | succ m ihm =>
        intro i hi
        have hlt : i < x.f3.length := by omega
        rw [drop_rd hlt]
        obtain ⟨b1, h1, hf1⟩ := ih _ (rd_mem hlt) (hw.rd hlt)
        have hstep : ∀ k, fieldsLE x i (k + 1) = (fieldsE (rd_T27 x.f3 i) k).bind fun t => if t = true then fieldsLE x ((i + 1 : Nat) : Int) k else some false := by
          intro k
          simp only [fieldsLE, posternref04_fields.l0]
          rw [if_pos (by omega), if_pos (by omega), wrap_id (n := (i : Int) + 1) (by omega) (by omega)]
          rfl
        cases b1
        · refine ⟨false, Ev.step hstep (Ev.bind h1 (by simpa using Ev.now false)), ?_⟩
          simp only [List.mem_cons, forall_eq_or_imp]
          refine ⟨fun h => by simp at h, fun h => ?_⟩
          have := hf1.2 h.1.1
          simp at this
        · obtain ⟨b2, h2, hf2⟩ := ihm (i + 1) (by omega)
          refine ⟨b2, Ev.step hstep (Ev.bind h1 (by simpa using h2)), ?_⟩
          rw [hf2]
          simp only [List.mem_cons, forall_eq_or_imp]
          have := hf1.1 rfl
          exact ⟨fun h => ⟨⟨this, h.1⟩, h.2⟩, fun h => ⟨h.1.2, h.2⟩⟩
    obtain ⟨b, hb, hf⟩ := hloop x.f3.length 0 (by omega)
    refine ⟨b, Ev.step (fun k => ?_) (by simpa using hb), ?_⟩
    · simp only [fieldsE, posternref04_fields.f]
    · rw [hf]
      exact ⟨fun h => .mk h.2 (by simpa using h.1), fun h => ⟨fun y hy => h.sub (by simpa using hy), h.now⟩⟩
theorem hgt_nest (x : S27) : Fields x → hgt x ≤ nest x := by
  induction x using S27.ind with
  | h x ih =>
    intro hf
    rw [hgt_eq]
    by_cases h3 : x.f0 = 3
    · rw [nest_list h3]
      refine hgtL_le.2 fun y hy => ?_
      have := ih y hy (hf.sub hy)
      have := (@nestL_le x.f3 _).1 (Nat.le_refl _) y hy
      omega
    · have : x.f3.length = 0 := by have := hf.now; unfold Field at this; omega
      rw [List.length_eq_zero_iff.1 this]; simp [hgtL]
theorem refmay_ev (x : S27) (hw : Wf x) : Ev (fun k => posternref04_May.f k x.f0 x.f1 x.f2 x.f3 x.f4) (mayV x) := by
  obtain ⟨r, hr, hb, hi, he⟩ := parts_ev x 0 (by omega) hw
  have hmay := may_iff x
  have hr' : Ev (partsE x 0) r := by simpa using hr
  by_cases h512 : r ≤ 512
  · have hn := hi.1 h512
    have hd := deep_ev x hn.1 hw
    by_cases hdd : nest x ≤ 16
    · obtain ⟨b, hf, hfi⟩ := fields_ev x hw
      have hbm : b = mayV x := by
        rw [Bool.eq_iff_iff, hfi, hmay]
        exact ⟨fun h => ⟨hn.1, hdd, h⟩, fun h => h.2.2⟩
      rw [← hbm]
      refine Ev.bind hr' ?_
      simp only [if_pos h512]
      refine Ev.bind hd ?_
      simp only [if_pos (show (nest x : Int) ≤ 16 by omega)]
      exact Ev.bind hf (Ev.now b)
    · have hbm : mayV x = false := by
        cases h : mayV x with
        | false => rfl
        | true => exact absurd (hmay.1 h).2.1 hdd
      rw [hbm]
      refine Ev.bind hr' ?_
      simp only [if_pos h512]
      refine Ev.bind hd ?_
      simp only [if_neg (show ¬ (nest x : Int) ≤ 16 by omega)]
      exact Ev.now false
  · have hbm : mayV x = false := by
      cases h : mayV x with
      | false => rfl
      | true =>
        have h2 := hmay.1 h
        have := hgt_nest x h2.2.2
        exact absurd (hi.2 ⟨h2.1, by omega⟩) h512
    rw [hbm]
    refine Ev.bind hr' ?_
    simp only [if_neg h512]
    exact Ev.now false
end Go.Proofs.Ythkemcekcfccpaa.PBrandCompares
end
section
namespace Go.Proofs.Ythkemcekcfccpaa.PBrandCompares
open Go.RowKit Go.Proofs.YthkemcekcfccpaaW.PrintWords Go.Proofs.YthkemcekcfccpaaW.PrintLast Go.Proofs.YthkemcekcfccpaaW.PrintMore
open Go.Proofs.Ythkemcekcfccpaa.GBrandCompares
set_option linter.unusedVariables false
set_option linter.unusedSimpArgs false
theorem shape_eq (x : S27) (hw : Wf x) : posternref04_shape.f x.f0 x.f1 x.f2 x.f3 x.f4 = some (shapeV x) := by
  have h0 := hw.lo
  have h1 := hw.hi
  unfold posternref04_shape.f shapeV
  rw [wrap_id (n := x.f0) (by omega) (by omega)]
  split
  · rename_i h
    split
    · rw [if_pos (by omega), h]
    · rw [if_neg (by omega)]
  · rfl
abbrev keysE (x : S27) (k : Nat) : Option Bool := posternref04_Keys.f k x.f0 x.f1 x.f2 x.f3 x.f4
abbrev keysLE (x : S27) (i : Int) (k : Nat) : Option Bool := posternref04_Keys.l0 k i x.f0 x.f1 x.f2 x.f3 x.f4
theorem keysL_next (x : S27) (hw : Wf x) (i : Nat) (hlt : i < x.f3.length) (k : Nat) : keysLE x i (k + 1) = (keysE (rd_T27 x.f3 i) k).bind fun t => if t = true then keysLE x ((i + 1 : Nat) : Int) k else some false := by
  have := hw.len
  simp only [keysLE, posternref04_Keys.l0]
  rw [if_pos (by omega), if_pos (by omega), wrap_id (n := (i : Int) + 1) (by omega) (by omega)]
  rfl
theorem keysL_end (x : S27) (i : Nat) (hlt : x.f3.length ≤ i) : Ev (keysLE x i) true := by
  refine Ev.step (f := fun k => some true) (fun k => ?_) (Ev.now true)
  simp only [keysLE, posternref04_Keys.l0]; rw [if_neg (by omega)]
theorem keys_ev (m : Mk) : ∀ x : S27, MarkOf x m → Fields x → Wf x → Ev (keysE x) m.keys := by
  induction m with
  | pair a b iha ihb =>
    intro x h hf hw
    have e1 := mark_shape hf.now h
    have s1 := shape_eq x hw
    obtain ⟨k3, y, z, hl, ha, hb⟩ := h
    have m1 : y ∈ x.f3 := by rw [hl]; simp
    have m2 : z ∈ x.f3 := by rw [hl]; simp
    have c1 := iha y ha (hf.sub m1) (hw.sub m1)
    have c2 := ihb z hb (hf.sub m2) (hw.sub m2)
    have r0 : rd_T27 x.f3 (0 : Nat) = y := by rw [hl]; rfl
    have r1 : rd_T27 x.f3 (1 : Nat) = z := by rw [hl]; rfl
    have n0 := keysL_next x hw 0 (by rw [hl]; simp)
    have n1 := keysL_next x hw 1 (by rw [hl]; simp)
    rw [r0] at n0
    rw [r1] at n1
    refine Ev.step (f := fun k => keysLE x 0 k) (fun k => ?_) ?_
    · simp only [keysE, posternref04_Keys.f, s1, Option.bind_some]
      rw [if_neg (by rw [e1]; simp)]
    · refine Ev.step n0 (Ev.bind c1 ?_)
      simp only [Mk.keys]
      cases a.keys
      · simpa using Ev.now false
      · simp only [if_true, Bool.true_and]
        refine Ev.step n1 (Ev.bind c2 ?_)
        cases b.keys
        · simpa using Ev.now false
        · simp only [if_true]
          exact keysL_end x 2 (by rw [hl]; simp)
  | row v =>
    intro x h hf hw
    have e1 := mark_shape hf.now h
    have s1 := shape_eq x hw
    refine Ev.step (f := fun k => some false) (fun k => ?_) (Ev.now false)
    simp only [keysE, posternref04_Keys.f, s1, Option.bind_some]
    rw [if_pos e1]
  | _ =>
    intro x h hf hw
    have e1 := mark_shape hf.now h
    have s1 := shape_eq x hw
    have hl : x.f3.length = 0 := by
      have := hf.now
      unfold Field at this
      unfold MarkOf at h
      omega
    refine Ev.step (f := fun k => keysLE x 0 k) (fun k => ?_) (keysL_end x 0 (by omega))
    simp only [keysE, posternref04_Keys.f, s1, Option.bind_some]
    rw [if_neg (by rw [e1]; simp)]
end Go.Proofs.Ythkemcekcfccpaa.PBrandCompares
end
section
namespace Go.Proofs.Ythkemcekcfccpaa.PBrandCompares
open Go.RowKit Go.Proofs.YthkemcekcfccpaaW.PrintWords Go.Proofs.YthkemcekcfccpaaW.PrintLast Go.Proofs.YthkemcekcfccpaaW.PrintMore
open Go.Proofs.Ythkemcekcfccpaa.GBrandCompares
set_option linter.unusedVariables false
set_option linter.unusedSimpArgs false
theorem mark_ex (x : S27) : ∃ m, MarkOf x m := by
  induction x using S27.ind with
  | h x ih =>
    by_cases h1 : x.f0 = 1
    · exact ⟨.number x.f1, h1, rfl⟩
    by_cases h2 : x.f0 = 2
    · exact ⟨.text x.f2, h2, rfl⟩
    by_cases h4 : x.f0 = 4
    · exact ⟨.refer x.f4, h4, rfl⟩
    by_cases h3 : x.f0 = 3
    · by_cases hl : x.f3.length = 2
      · obtain ⟨y, z, hyz⟩ : ∃ y z, x.f3 = [y, z] := by
          match h : x.f3, hl with
          | [y, z], _ => exact ⟨y, z, rfl⟩
        obtain ⟨a, ha⟩ := ih y (by rw [hyz]; simp)
        obtain ⟨b, hb⟩ := ih z (by rw [hyz]; simp)
        exact ⟨.pair a b, h3, y, z, hyz, ha, hb⟩
      · exact ⟨.row undef, h3, hl⟩
    · exact ⟨.nothing, h1, h2, h4, h3⟩
noncomputable def markV (x : S27) : Mk := (mark_ex x).choose
theorem markV_of (x : S27) : MarkOf x (markV x) := (mark_ex x).choose_spec
theorem may_fields {x : S27} (h : mayV x = true) : Fields x := ((may_iff x).1 h).2.2
theorem may_wf {x : S27} (h : mayV x = true) : Wf x := wf_may ((may_iff x).1 h).2.2 ((may_iff x).1 h).1
theorem refmay_calls (x : S27) (A : Option Addr) (c : Nat) (w : World) (hc : x.f3.length ≤ c) (hC : Kd.C k27 w A x.f3.length x.f3) (hw : Wf x) :
    Calls Try.prog 10 #[.agg #[.int .u8 x.f0, .int .i64 x.f1, .string x.f2, .slice A x.f3.length c, .int .i64 x.f4]] w fun e w' => e = .returned (.bool (mayV x)) ∧ Below w.heap.size w w' := by
  obtain ⟨k, h⟩ := (refmay_ev x hw).rounds
  exact posternref04_May.calls k x.f0 x.f1 x.f2 A c x.f3 x.f4 _ w hC hc h
theorem refkeys_calls (x : S27) (A : Option Addr) (c : Nat) (w : World) (hc : x.f3.length ≤ c) (hC : Kd.C k27 w A x.f3.length x.f3) (hm : mayV x = true) :
    Calls Try.prog 13 #[.agg #[.int .u8 x.f0, .int .i64 x.f1, .string x.f2, .slice A x.f3.length c, .int .i64 x.f4]] w fun e w' => e = .returned (.bool (markV x).keys) ∧ Below w.heap.size w w' := by
  obtain ⟨k, h⟩ := (keys_ev (markV x) x (markV_of x) (may_fields hm) (may_wf hm)).rounds
  exact posternref04_Keys.calls k x.f0 x.f1 x.f2 A c x.f3 x.f4 _ w hC hc h
end Go.Proofs.Ythkemcekcfccpaa.PBrandCompares
end
section
namespace Go.Proofs.Ythkemcekcfccpaa.PBrandCompares
open Go.RowKit Go.Proofs.YthkemcekcfccpaaW.PrintWords Go.Proofs.YthkemcekcfccpaaW.PrintLast Go.Proofs.YthkemcekcfccpaaW.PrintMore
open Go.Proofs.Ythkemcekcfccpaa.GBrandCompares
set_option linter.unusedVariables false
set_option linter.unusedSimpArgs false
noncomputable def wrongV (x y : S27) : Int := if mayV x = true ∧ mayV y = true then (if (markV x).keys = true then 0 else 40) else 2
set_option maxHeartbeats 1000000 in
set_option maxRecDepth 100000 in
theorem wrong_calls (x y : S27) (A B : Option Addr) (c d : Nat) (w : World) (ok : Nat → Prop) (hc : x.f3.length ≤ c) (hd : y.f3.length ≤ d) (hF : Kd.F k27 w ok A x.f3.length x.f3) (hG : Kd.F k27 w ok B y.f3.length y.f3) (hx : Wf x) (hy : Wf y) :
    Calls Try.prog 43 #[.agg #[.int .u8 x.f0, .int .i64 x.f1, .string x.f2, .slice A x.f3.length c, .int .i64 x.f4], .agg #[.int .u8 y.f0, .int .i64 y.f1, .string y.f2, .slice B y.f3.length d, .int .i64 y.f4]] w fun e w' => e = .returned (.int .i64 (wrongV x y)) ∧ Ex (fun _ => False) w w' := by
  have HF := Aside0.mk (And.intro hF hG)
  have HC := Aside0.mk (And.intro hc (And.intro hd (And.intro hx hy)))
  have HX0 := Aside0.mk (((Ex.refl (fun _ => False) w).alloc (.cells #[.int .u8 x.f0, .int .i64 x.f1, .string x.f2, .slice A x.f3.length c, .int .i64 x.f4] 27)).alloc (.cells #[.int .u8 y.f0, .int .i64 y.f1, .string y.f2, .slice B y.f3.length d, .int .i64 y.f4] 27))
  have HP0 := Aside0.mk (blk_alloc (blk_new1 w (.cells #[.int .u8 x.f0, .int .i64 x.f1, .string x.f2, .slice A x.f3.length c, .int .i64 x.f4] 27)) (.cells #[.int .u8 y.f0, .int .i64 y.f1, .string y.f2, .slice B y.f3.length d, .int .i64 y.f4] 27))
  have HQ0 := Aside0.mk (blk_new2 w (.cells #[.int .u8 x.f0, .int .i64 x.f1, .string x.f2, .slice A x.f3.length c, .int .i64 x.f4] 27) (.cells #[.int .u8 y.f0, .int .i64 y.f1, .string y.f2, .slice B y.f3.length d, .int .i64 y.f4] 27))
  clear hF hG hc hd hx hy
  cases hmx : mayV x with
  | false =>
    have HMX := Aside0.mk hmx
    clear hmx
    go_enter Try.func43, Try.ntmps43
    go_wp2_with fail
    refine (refmay_calls x A c _ HC.out.1 (Kd.F_now (ex_F HX0.out HF.out.1 (fun _ _ h => h))) HC.out.2.2.1).mono ?_
    rintro e w1 ⟨rfl, hb⟩
    have hx1 := Ex.of_below (S := fun _ => False) hb
    have HX1 := Aside0.mk (HX0.out.trans hx1 (fun _ h => h.elim))
    have HP1 := Aside0.mk (hx1.blk HP0.out (fun h => h))
    have HQ1 := Aside0.mk (hx1.blk HQ0.out (fun h => h))
    clear hb hx1
    rw [HMX.out]
    have p0 := (blk_cell HP1.out 0).trans rfl
    have p1 := (blk_cell HP1.out 1).trans rfl
    have p2 := (blk_cell HP1.out 2).trans rfl
    have p3 := (blk_cell HP1.out 3).trans rfl
    have p4 := (blk_cell HP1.out 4).trans rfl
    have pl := lt_of_blk HP1.out
    have q0 := (blk_cell HQ1.out 0).trans rfl
    have q1 := (blk_cell HQ1.out 1).trans rfl
    have q2 := (blk_cell HQ1.out 2).trans rfl
    have q3 := (blk_cell HQ1.out 3).trans rfl
    have q4 := (blk_cell HQ1.out 4).trans rfl
    have ql := lt_of_blk HQ1.out
    go_wp2_with fail
    go_ret
    exact ⟨by rw [wrongV, if_neg (by rw [HMX.out]; simp)]; rfl, HX1.out⟩
  | true =>
    have HMX := Aside0.mk hmx
    clear hmx
    cases hmy : mayV y with
    | false =>
      have HMY := Aside0.mk hmy
      clear hmy
      go_enter Try.func43, Try.ntmps43
      go_wp2_with fail
      refine (refmay_calls x A c _ HC.out.1 (Kd.F_now (ex_F HX0.out HF.out.1 (fun _ _ h => h))) HC.out.2.2.1).mono ?_
      rintro e w1 ⟨rfl, hb⟩
      have hx1 := Ex.of_below (S := fun _ => False) hb
      have HX1 := Aside0.mk (HX0.out.trans hx1 (fun _ h => h.elim))
      have HP1 := Aside0.mk (hx1.blk HP0.out (fun h => h))
      have HQ1 := Aside0.mk (hx1.blk HQ0.out (fun h => h))
      clear hb hx1
      rw [HMX.out]
      have p0 := (blk_cell HP1.out 0).trans rfl
      have p1 := (blk_cell HP1.out 1).trans rfl
      have p2 := (blk_cell HP1.out 2).trans rfl
      have p3 := (blk_cell HP1.out 3).trans rfl
      have p4 := (blk_cell HP1.out 4).trans rfl
      have pl := lt_of_blk HP1.out
      have q0 := (blk_cell HQ1.out 0).trans rfl
      have q1 := (blk_cell HQ1.out 1).trans rfl
      have q2 := (blk_cell HQ1.out 2).trans rfl
      have q3 := (blk_cell HQ1.out 3).trans rfl
      have q4 := (blk_cell HQ1.out 4).trans rfl
      have ql := lt_of_blk HQ1.out
      go_wp2_with fail
      refine (refmay_calls y B d _ HC.out.2.1 (Kd.F_now (ex_F HX1.out HF.out.2 (fun _ _ h => h))) HC.out.2.2.2).mono ?_
      rintro e w2 ⟨rfl, hb⟩
      have hx2 := Ex.of_below (S := fun _ => False) hb
      have HX2 := Aside0.mk (HX1.out.trans hx2 (fun _ h => h.elim))
      have HP2 := Aside0.mk (hx2.blk HP1.out (fun h => h))
      have HQ2 := Aside0.mk (hx2.blk HQ1.out (fun h => h))
      clear hb hx2
      rw [HMY.out]
      clear p0 p1 p2 p3 p4 pl q0 q1 q2 q3 q4 ql
      have p0 := (blk_cell HP2.out 0).trans rfl
      have p1 := (blk_cell HP2.out 1).trans rfl
      have p2 := (blk_cell HP2.out 2).trans rfl
      have p3 := (blk_cell HP2.out 3).trans rfl
      have p4 := (blk_cell HP2.out 4).trans rfl
      have pl := lt_of_blk HP2.out
      have q0 := (blk_cell HQ2.out 0).trans rfl
      have q1 := (blk_cell HQ2.out 1).trans rfl
      have q2 := (blk_cell HQ2.out 2).trans rfl
      have q3 := (blk_cell HQ2.out 3).trans rfl
      have q4 := (blk_cell HQ2.out 4).trans rfl
      have ql := lt_of_blk HQ2.out
      go_wp2_with fail
      go_ret
      exact ⟨by rw [wrongV, if_neg (by rw [HMY.out]; simp)]; rfl, HX2.out⟩
    | true =>
      have HMY := Aside0.mk hmy
      clear hmy
      go_enter Try.func43, Try.ntmps43
      go_wp2_with fail
      refine (refmay_calls x A c _ HC.out.1 (Kd.F_now (ex_F HX0.out HF.out.1 (fun _ _ h => h))) HC.out.2.2.1).mono ?_
      rintro e w1 ⟨rfl, hb⟩
      have hx1 := Ex.of_below (S := fun _ => False) hb
      have HX1 := Aside0.mk (HX0.out.trans hx1 (fun _ h => h.elim))
      have HP1 := Aside0.mk (hx1.blk HP0.out (fun h => h))
      have HQ1 := Aside0.mk (hx1.blk HQ0.out (fun h => h))
      clear hb hx1
      rw [HMX.out]
      have p0 := (blk_cell HP1.out 0).trans rfl
      have p1 := (blk_cell HP1.out 1).trans rfl
      have p2 := (blk_cell HP1.out 2).trans rfl
      have p3 := (blk_cell HP1.out 3).trans rfl
      have p4 := (blk_cell HP1.out 4).trans rfl
      have pl := lt_of_blk HP1.out
      have q0 := (blk_cell HQ1.out 0).trans rfl
      have q1 := (blk_cell HQ1.out 1).trans rfl
      have q2 := (blk_cell HQ1.out 2).trans rfl
      have q3 := (blk_cell HQ1.out 3).trans rfl
      have q4 := (blk_cell HQ1.out 4).trans rfl
      have ql := lt_of_blk HQ1.out
      go_wp2_with fail
      refine (refmay_calls y B d _ HC.out.2.1 (Kd.F_now (ex_F HX1.out HF.out.2 (fun _ _ h => h))) HC.out.2.2.2).mono ?_
      rintro e w2 ⟨rfl, hb⟩
      have hx2 := Ex.of_below (S := fun _ => False) hb
      have HX2 := Aside0.mk (HX1.out.trans hx2 (fun _ h => h.elim))
      have HP2 := Aside0.mk (hx2.blk HP1.out (fun h => h))
      have HQ2 := Aside0.mk (hx2.blk HQ1.out (fun h => h))
      clear hb hx2
      rw [HMY.out]
      clear p0 p1 p2 p3 p4 pl q0 q1 q2 q3 q4 ql
      have p0 := (blk_cell HP2.out 0).trans rfl
      have p1 := (blk_cell HP2.out 1).trans rfl
      have p2 := (blk_cell HP2.out 2).trans rfl
      have p3 := (blk_cell HP2.out 3).trans rfl
      have p4 := (blk_cell HP2.out 4).trans rfl
      have pl := lt_of_blk HP2.out
      have q0 := (blk_cell HQ2.out 0).trans rfl
      have q1 := (blk_cell HQ2.out 1).trans rfl
      have q2 := (blk_cell HQ2.out 2).trans rfl
      have q3 := (blk_cell HQ2.out 3).trans rfl
      have q4 := (blk_cell HQ2.out 4).trans rfl
      have ql := lt_of_blk HQ2.out
      go_wp2_with fail
      refine (refkeys_calls x A c _ HC.out.1 (Kd.F_now (ex_F HX2.out HF.out.1 (fun _ _ h => h))) HMX.out).mono ?_
      rintro e w3 ⟨rfl, hb⟩
      have hx3 := Ex.of_below (S := fun _ => False) hb
      have HX3 := Aside0.mk (HX2.out.trans hx3 (fun _ h => h.elim))
      have HP3 := Aside0.mk (hx3.blk HP2.out (fun h => h))
      have HQ3 := Aside0.mk (hx3.blk HQ2.out (fun h => h))
      clear hb hx3
      clear p0 p1 p2 p3 p4 pl q0 q1 q2 q3 q4 ql
      cases hk : (markV x).keys with
      | false =>
        have HK := Aside0.mk hk
        clear hk
        go_wp2_with fail
        go_ret
        exact ⟨by rw [wrongV, if_pos ⟨HMX.out, HMY.out⟩, HK.out]; rfl, HX3.out⟩
      | true =>
        have HK := Aside0.mk hk
        clear hk
        go_wp2_with fail
        go_ret
        exact ⟨by rw [wrongV, if_pos ⟨HMX.out, HMY.out⟩, HK.out]; rfl, HX3.out⟩
end Go.Proofs.Ythkemcekcfccpaa.PBrandCompares
end
section
namespace Go.Proofs.Ythkemcekcfccpaa.PBrandCompares
open Go.RowKit Go.Shelf Go.Proofs.YthkemcekcfccpaaW.PrintWords Go.Proofs.YthkemcekcfccpaaW.PrintLast Go.Proofs.YthkemcekcfccpaaW.PrintMore
open Go.Proofs.Ythkemcekcfccpaa.GBrandCompares
set_option linter.unusedVariables false
set_option linter.unusedSimpArgs false
theorem wrong_ok {x y : S27} (h : wrongV x y = 0) : mayV x = true ∧ mayV y = true ∧ KeyV x := by
  unfold wrongV at h
  by_cases hm : mayV x = true ∧ mayV y = true
  · rw [if_pos hm] at h
    by_cases hk : (markV x).keys = true
    · exact ⟨hm.1, hm.2, _, markV_of x, hk⟩
    · rw [if_neg hk] at h; cases h
  · rw [if_neg hm] at h; cases h
theorem wrong_no {x y : S27} (h : wrongV x y ≠ 0) : (¬ (mayV x = true ∧ mayV y = true) ∧ wrongV x y = 2) ∨ ((mayV x = true ∧ mayV y = true) ∧ ¬ KeyV x ∧ wrongV x y = 40) := by
  unfold wrongV at h ⊢
  by_cases hm : mayV x = true ∧ mayV y = true
  · rw [if_pos hm] at h ⊢
    by_cases hk : (markV x).keys = true
    · rw [if_pos hk] at h; exact absurd rfl h
    · exact .inr ⟨hm, fun hK => hk ((keyv_iff (markV_of x)).1 hK), by rw [if_neg hk]⟩
  · exact .inl ⟨hm, by rw [if_neg hm]⟩
def PutP (rows : List Row) (came : Nat) (x y : S27) (had : Bool) (z : S27) (rows' : List Row) (came' : Nat) : Prop :=
  (had = false ∧ z = z27 ∧ x ∉ rows.map (·.k) ∧ ∃ r : Row, rows' = rows ++ [r] ∧ r.k = x ∧ r.v = y ∧ r.n = came + 1 ∧ came' = came + 1) ∨
  (had = true ∧ came' = came ∧ ∃ (j : Nat) (r : Row) (B : Option Addr) (d : Nat), rows[j]? = some r ∧ r.k = x ∧ z = r.v ∧ rows' = rows.set j (r.turn y B d))
def GetP (rows : List Row) (x : S27) (had : Bool) (z : S27) : Prop := (had = false ∧ z = z27 ∧ x ∉ rows.map (·.k)) ∨ (had = true ∧ ∃ (j : Nat) (r : Row), rows[j]? = some r ∧ r.k = x ∧ z = r.v)
def DropP (rows : List Row) (x : S27) (had : Bool) (rows' : List Row) : Prop := (had = false ∧ x ∉ rows.map (·.k) ∧ rows' = rows) ∨ (had = true ∧ ∃ (j : Nat) (r : Row), rows[j]? = some r ∧ r.k = x ∧ rows' = rows.eraseIdx j)
def RPutP (l : List Pr) (x y : S27) (had : Bool) (z : S27) (l' : List Pr) : Prop := (had = false ∧ z = z27 ∧ NoP l x ∧ ∃ p : Pr, l' = l ++ [p] ∧ p.k = x ∧ p.v = y) ∨ (had = true ∧ ∃ (i : Nat) (p q : Pr), AtP l x i p ∧ z = p.v ∧ l' = l.set i q ∧ q.k = p.k ∧ q.v = y)
def RGetP (l : List Pr) (x : S27) (had : Bool) (z : S27) : Prop := (had = false ∧ z = z27 ∧ NoP l x) ∨ (had = true ∧ ∃ (i : Nat) (p : Pr), AtP l x i p ∧ z = p.v)
def RDropP (l : List Pr) (x : S27) (had : Bool) (l' : List Pr) : Prop := (had = false ∧ NoP l x ∧ l' = l) ∨ (had = true ∧ ∃ (i : Nat) (p : Pr), AtP l x i p ∧ l' = l.eraseIdx i)
theorem lens_z : Lens z27 := .mk (by simp [z27]) (by simp [z27])
theorem Row.Good.lens {T : Nat → Prop} {w : World} {r : Row} (h : r.Good w T) : Lens r.k ∧ Lens r.v := by
  have h1 := (may_iff _).1 h.mayk
  have h2 := (may_iff _).1 h.mayv
  exact ⟨(wf_may h1.2.2 h1.1).lens, (wf_may h2.2.2 h2.1).lens⟩
theorem row_no {T : Nat → Prop} {rows : List Row} {came : Nat} {w : World} {g mb ob : Nat} (h : Tab w g mb ob T rows came) {x : S27} {m : Mk} (hm : mayV x = true) (hx : MarkOf x m) (hk : Key m) (hn : m ∉ rows.map (·.m)) : x ∉ rows.map (·.k) := by
  intro hi
  obtain ⟨r, hr, he⟩ := List.mem_map.1 hi
  exact hn (List.mem_map.2 ⟨r, hr, (row_key h hx hm hk.1 hr).2 he⟩)
theorem row_at {T : Nat → Prop} {rows : List Row} {came : Nat} {w : World} {g mb ob : Nat} (h : Tab w g mb ob T rows came) {x : S27} {m : Mk} (hm : mayV x = true) (hx : MarkOf x m) (hk : Key m) {j : Nat} {r : Row} (hr : rows[j]? = some r) (he : r.m = m) : r.k = x := (row_key h hx hm hk.1 (List.mem_of_getElem? hr)).1 he
theorem at_in {l : List Pr} {x : S27} {i : Nat} {p : Pr} (h : AtP l x i p) : x ∈ l.map (·.k) := List.mem_map.2 ⟨p, List.mem_of_getElem? h.1, h.2.1⟩
theorem row_in {rows : List Row} {j : Nat} {r : Row} (h : rows[j]? = some r) : r.k ∈ rows.map (·.k) := List.mem_map.2 ⟨r, List.mem_of_getElem? h, rfl⟩
theorem put_meet {T : Nat → Prop} {rows : List Row} {came : Nat} {w : World} {g mb ob : Nat} {l l' : List Pr} {rows' : List Row} {came' : Nat} {x y z z' : S27} {had had' : Bool} (h : Tab w g mb ob T rows came) (hr : Rel rows l) (hp : PutP rows came x y had z rows' came') (hq : RPutP l x y had' z' l') :
    had' = had ∧ z' = z ∧ Rel rows' l' ∧ l'.length ≤ l.length + 1 ∧ came' ≤ came + 1 := by
  rcases hp with ⟨rfl, rfl, hn, r, rfl, h1, h2, h3, rfl⟩ | ⟨rfl, rfl, j, r, B, d, hj, h1, rfl, rfl⟩ <;> rcases hq with ⟨rfl, rfl, hN, p, rfl, h4, h5⟩ | ⟨rfl, i, p, q, hA, rfl, rfl, h4, h5⟩
  · exact ⟨rfl, rfl, hr.add r p ⟨h4.trans h1.symm, h5.trans h2.symm⟩ (fun s hs => by have := (h.nums s hs).2; omega), by simp, by omega⟩
  · exact absurd ((hr.keys x).1 (at_in hA)) hn
  · exact absurd ((hr.keys x).2 (h1 ▸ row_in hj)) (noP_iff.1 hN)
  · exact ⟨rfl, hr.val h.kapart hA.1 hj (hA.2.1.trans h1.symm), hr.turn h.kapart hA.1 hj (hA.2.1.trans h1.symm) y B d ⟨h4, h5⟩, by simp, by omega⟩
theorem get_meet {T : Nat → Prop} {rows : List Row} {came : Nat} {w : World} {g mb ob : Nat} {l : List Pr} {x z z' : S27} {had had' : Bool} (h : Tab w g mb ob T rows came) (hr : Rel rows l) (hp : GetP rows x had z) (hq : RGetP l x had' z') : had' = had ∧ z' = z := by
  rcases hp with ⟨rfl, rfl, hn⟩ | ⟨rfl, j, r, hj, h1, rfl⟩ <;> rcases hq with ⟨rfl, rfl, hN⟩ | ⟨rfl, i, p, hA, rfl⟩
  · exact ⟨rfl, rfl⟩
  · exact absurd ((hr.keys x).1 (at_in hA)) hn
  · exact absurd ((hr.keys x).2 (h1 ▸ row_in hj)) (noP_iff.1 hN)
  · exact ⟨rfl, hr.val h.kapart hA.1 hj (hA.2.1.trans h1.symm)⟩
theorem drop_meet {T : Nat → Prop} {rows : List Row} {came : Nat} {w : World} {g mb ob : Nat} {l l' : List Pr} {rows' : List Row} {x : S27} {had had' : Bool} (h : Tab w g mb ob T rows came) (hr : Rel rows l) (hp : DropP rows x had rows') (hq : RDropP l x had' l') : had' = had ∧ Rel rows' l' ∧ l'.length ≤ l.length := by
  rcases hp with ⟨rfl, hn, rfl⟩ | ⟨rfl, j, r, hj, h1, rfl⟩ <;> rcases hq with ⟨rfl, hN, rfl⟩ | ⟨rfl, i, p, hA, rfl⟩
  · exact ⟨rfl, hr, Nat.le_refl _⟩
  · exact absurd ((hr.keys x).1 (at_in hA)) hn
  · exact absurd ((hr.keys x).2 (h1 ▸ row_in hj)) (noP_iff.1 hN)
  · exact ⟨rfl, hr.drop h.kapart hA.1 hj (hA.2.1.trans h1.symm), by rw [List.length_eraseIdx]; split <;> omega⟩
theorem put_no (x y : S27) (A B : Option Addr) (c d g mb ob : Nat) (T ok : Nat → Prop) (rows : List Row) (came : Nat) (w : World) (h : Tab w g mb ob T rows came) (hcame : came < 1000000000) (hc : x.f3.length ≤ c) (hd : y.f3.length ≤ d)
    (hF : Kd.F k27 w ok A x.f3.length x.f3) (hF2 : Kd.F k27 w ok B y.f3.length y.f3) (hok : ∀ b, ok b → ¬ T b) (hw : wrongV x y ≠ 0) : PUT x y A B c d g w fun e w' => e = .returned (.tuple #[.agg #[.int .u8 0, .int .i64 0, .string ⟨#[]⟩, .slice none 0 0, .int .i64 0], .bool false, .int .i64 (wrongV x y)]) ∧ Ex (fun _ => False) w w' := by
  refine (put_calls x y A B c d g mb ob T ok rows came w h hcame hc hd hF hF2 hok).mono ?_
  rintro e w' hp
  rcases wrong_no hw with ⟨h1, h2⟩ | ⟨h1, h3, h2⟩ <;> rw [h2]
  · rcases hp with ⟨h4, rfl, hx⟩ | ⟨h4, _⟩ | ⟨h4, _⟩
    · exact ⟨rfl, hx⟩
    · exact absurd h4 h1
    · exact absurd h4 h1
  · rcases hp with ⟨h4, rfl, hx⟩ | ⟨h4, h5, rfl, hx⟩ | ⟨h4, hx, m, hm, hk, _⟩
    · rcases h4 with h4 | h4
      · rw [h1.1] at h4; cases h4
      · rw [h1.2] at h4; cases h4
    · exact ⟨rfl, hx⟩
    · exact absurd ⟨m, hm, hk.1⟩ h3
theorem put_yes (x y : S27) (A B : Option Addr) (c d g mb ob : Nat) (T ok : Nat → Prop) (rows : List Row) (came : Nat) (w : World) (h : Tab w g mb ob T rows came) (hcame : came < 1000000000) (hc : x.f3.length ≤ c) (hd : y.f3.length ≤ d)
    (hF : Kd.F k27 w ok A x.f3.length x.f3) (hF2 : Kd.F k27 w ok B y.f3.length y.f3) (hok : ∀ b, ok b → ¬ T b) (hw : wrongV x y = 0) : PUT x y A B c d g w fun e w' => ∃ (had : Bool) (z : S27) (Z : Option Addr) (cz : Nat) (rows' : List Row) (came' : Nat), e = .returned (.tuple #[.agg #[.int .u8 z.f0, .int .i64 z.f1, .string z.f2, .slice Z z.f3.length cz, .int .i64 z.f4], .bool had, .int .i64 0]) ∧
      z.f3.length ≤ cz ∧ Kd.F k27 w' T Z z.f3.length z.f3 ∧ Lens z ∧ Ex (fun b => b = g ∨ b = mb ∨ b = ob) w w' ∧ Tab w' g mb ob (fun b => (T b ∨ w.heap.size ≤ b) ∧ b < w'.heap.size) rows' came' ∧ PutP rows came x y had z rows' came' := by
  refine (put_calls x y A B c d g mb ob T ok rows came w h hcame hc hd hF hF2 hok).mono ?_
  obtain ⟨hmx, hmy, hkv⟩ := wrong_ok hw
  rintro e w' (⟨h4, _⟩ | ⟨_, h4, _⟩ | ⟨_, hx, m, hm, hk, ⟨hnew, rfl, r, h1, h2, h3, h4, hT⟩ | ⟨j, r, hj, hrm, rfl, hFr, B', d', hT⟩⟩)
  · rcases h4 with h4 | h4
    · rw [hmx] at h4; cases h4
    · rw [hmy] at h4; cases h4
  · exact absurd hkv h4
  · exact ⟨false, z27, none, 0, _, _, rfl, Nat.le_refl _, Kd.F_nil k27 w' T, lens_z, hx, hT.bound, .inl ⟨rfl, rfl, row_no h hmx hm hk hnew, r, rfl, h2, h3, h4, rfl⟩⟩
  · exact ⟨true, r.v, r.B, r.cb, _, _, rfl, (h.good r (List.mem_of_getElem? hj)).lv, hFr, (h.good r (List.mem_of_getElem? hj)).lens.2, hx, hT.bound, .inr ⟨rfl, rfl, j, r, B', d', hj, row_at h hmx hm hk hj hrm, rfl, rfl⟩⟩
theorem get_no (x : S27) (A : Option Addr) (c g mb ob : Nat) (T ok : Nat → Prop) (rows : List Row) (came : Nat) (w : World) (h : Tab w g mb ob T rows came) (hF : Kd.F k27 w ok A x.f3.length x.f3) (hw : wrongV x z27 ≠ 0) : GET x A c g w fun e w' => e = .returned (.tuple #[.agg #[.int .u8 0, .int .i64 0, .string ⟨#[]⟩, .slice none 0 0, .int .i64 0], .bool false, .int .i64 (wrongV x z27)]) ∧ Ex (fun _ => False) w w' := by
  refine (get_calls x A c g mb ob T ok rows came w h hF).mono ?_
  rintro e w' hp
  rcases wrong_no hw with ⟨h1, h2⟩ | ⟨h1, h3, h2⟩ <;> rw [h2]
  · rcases hp with ⟨h4, rfl, hx⟩ | ⟨h4, _⟩ | ⟨h4, _⟩
    · exact ⟨rfl, hx⟩
    · exact absurd ⟨h4, may_z⟩ h1
    · exact absurd ⟨h4, may_z⟩ h1
  · rcases hp with ⟨h4, rfl, hx⟩ | ⟨h4, h5, rfl, hx⟩ | ⟨h4, m, hm, hk, _⟩
    · rw [h1.1] at h4; cases h4
    · exact ⟨rfl, hx⟩
    · exact absurd ⟨m, hm, hk.1⟩ h3
theorem get_yes (x : S27) (A : Option Addr) (c g mb ob : Nat) (T ok : Nat → Prop) (rows : List Row) (came : Nat) (w : World) (h : Tab w g mb ob T rows came) (hF : Kd.F k27 w ok A x.f3.length x.f3) (hw : wrongV x z27 = 0) : GET x A c g w fun e w' => ∃ (had : Bool) (z : S27) (Z : Option Addr) (cz : Nat), e = .returned (.tuple #[.agg #[.int .u8 z.f0, .int .i64 z.f1, .string z.f2, .slice Z z.f3.length cz, .int .i64 z.f4], .bool had, .int .i64 0]) ∧
    z.f3.length ≤ cz ∧ Kd.R k27 27 w' w.heap.size (fun k => w.heap.size ≤ k) (.slice Z z.f3.length cz) z.f3 ∧ Lens z ∧ Ex (fun _ => False) w w' ∧ GetP rows x had z := by
  refine (get_calls x A c g mb ob T ok rows came w h hF).mono ?_
  obtain ⟨hmx, _, hkv⟩ := wrong_ok hw
  rintro e w' (⟨h4, _⟩ | ⟨_, h4, _⟩ | ⟨_, m, hm, hk, ⟨hnew, Z, cz, rfl, h1, h2, h3⟩ | ⟨j, r, hj, hrm, Z, cz, rfl, h1, h2, h3⟩⟩)
  · rw [hmx] at h4; cases h4
  · exact absurd hkv h4
  · exact ⟨false, z27, Z, cz, rfl, h1, h2, lens_z, h3, .inl ⟨rfl, rfl, row_no h hmx hm hk hnew⟩⟩
  · exact ⟨true, r.v, Z, cz, rfl, h1, h2, (h.good r (List.mem_of_getElem? hj)).lens.2, h3, .inr ⟨rfl, j, r, hj, row_at h hmx hm hk hj hrm, rfl⟩⟩
theorem drop_no (x : S27) (A : Option Addr) (c g mb ob : Nat) (T ok : Nat → Prop) (rows : List Row) (came : Nat) (w : World) (h : Tab w g mb ob T rows came) (hF : Kd.F k27 w ok A x.f3.length x.f3) (hw : wrongV x z27 ≠ 0) : DROP x A c g w fun e w' => e = .returned (.tuple #[.bool false, .int .i64 (wrongV x z27)]) ∧ Ex (fun _ => False) w w' := by
  refine (drop_calls x A c g mb ob T ok rows came w h hF).mono ?_
  rintro e w' hp
  rcases wrong_no hw with ⟨h1, h2⟩ | ⟨h1, h3, h2⟩ <;> rw [h2]
  · rcases hp with ⟨h4, rfl, hx⟩ | ⟨h4, _⟩ | ⟨h4, _⟩
    · exact ⟨rfl, hx⟩
    · exact absurd ⟨h4, may_z⟩ h1
    · exact absurd ⟨h4, may_z⟩ h1
  · rcases hp with ⟨h4, rfl, hx⟩ | ⟨h4, h5, rfl, hx⟩ | ⟨h4, m, hm, hk, _⟩
    · rw [h1.1] at h4; cases h4
    · exact ⟨rfl, hx⟩
    · exact absurd ⟨m, hm, hk.1⟩ h3
theorem drop_yes (x : S27) (A : Option Addr) (c g mb ob : Nat) (T ok : Nat → Prop) (rows : List Row) (came : Nat) (w : World) (h : Tab w g mb ob T rows came) (hF : Kd.F k27 w ok A x.f3.length x.f3) (hw : wrongV x z27 = 0) : DROP x A c g w fun e w' => ∃ (had : Bool) (rows' : List Row), e = .returned (.tuple #[.bool had, .int .i64 0]) ∧
    Ex (fun b => b = mb ∨ b = ob) w w' ∧ Tab w' g mb ob T rows' came ∧ DropP rows x had rows' := by
  refine (drop_calls x A c g mb ob T ok rows came w h hF).mono ?_
  obtain ⟨hmx, _, hkv⟩ := wrong_ok hw
  rintro e w' (⟨h4, _⟩ | ⟨_, h4, _⟩ | ⟨_, m, hm, hk, hx, ⟨hnew, rfl, hT⟩ | ⟨j, r, hj, hrm, rfl, hT⟩⟩)
  · rw [hmx] at h4; cases h4
  · exact absurd hkv h4
  · exact ⟨false, _, rfl, hx, hT, .inl ⟨rfl, row_no h hmx hm hk hnew, rfl⟩⟩
  · exact ⟨true, _, rfl, hx, hT, .inr ⟨rfl, j, r, hj, row_at h hmx hm hk hj hrm, rfl⟩⟩
theorem own_ge {w : World} {base n : Nat} {v : Value} {xs : List Value} (h : w.ownsRow base 88 10 v n xs) {b : Nat} (hb : some b = v.ownBlock) : base ≤ b := by
  rcases h.2 with ⟨rfl, _⟩ | ⟨g, cap, cur, rfl, hg, _⟩
  · simp [Value.ownBlock] at hb
  · simp only [Value.ownBlock, Option.some.injEq] at hb
    subst hb
    exact hg
theorem rput_yes {ok : Nat → Prop} {base h : Nat} {u : Value} {l : List Pr} (x y : S27) (A B : Option Addr) (c c2 : Nat) (w : World) (hr : RT w base ok h u l) (hl : l.length < 1000000) (hb : base ≤ w.heap.size) (hbh : base ≤ h) (hok : ∀ b, ok b → b < base) (hp : Pr.Good w ok (Pr.mk x y A c B c2)) :
    RPUT x y A B c c2 h w fun e w' => ∃ (had : Bool) (z : S27) (Z : Option Addr) (cz : Nat) (u' : Value) (l' : List Pr), e = .returned (.tuple #[.agg #[.int .u8 z.f0, .int .i64 z.f1, .string z.f2, .slice Z z.f3.length cz, .int .i64 z.f4], .bool had]) ∧ z.f3.length ≤ cz ∧ Kd.F k27 w' ok Z z.f3.length z.f3 ∧ Ex (fun b => b = h ∨ some b = u.ownBlock) w w' ∧ RT w' base ok h u' l' ∧ (u'.ownBlock = u.ownBlock ∨ ∃ b, u'.ownBlock = some b ∧ w.heap.size ≤ b) ∧ RPutP l x y had z l' := by
  refine (rput_calls x y A B c c2 w hr hl hb hbh hok hp).mono ?_
  rintro e w' ⟨hx, ⟨hN, rfl, u', hR, hu⟩ | ⟨i, p, hA, rfl, hR⟩⟩
  · exact ⟨false, z27, none, 0, u', _, rfl, Nat.le_refl _, Kd.F_nil k27 w' ok, hx, hR, hu, .inl ⟨rfl, rfl, hN, _, rfl, rfl, rfl⟩⟩
  · have hg := hr.good p (List.mem_of_getElem? hA.1)
    refine ⟨true, p.v, p.B, p.d, u, _, rfl, hg.lv, ex_F hx hg.fv (fun b hb hs => ?_), hx, hR, .inl rfl, .inr ⟨rfl, i, p, _, hA, rfl, rfl, rfl, rfl⟩⟩
    have := hok b hb
    rcases hs with rfl | hs
    · omega
    · have := own_ge hr.own hs; omega
theorem rget_yes {ok okx : Nat → Prop} {base h : Nat} {u : Value} {l : List Pr} (x : S27) (A : Option Addr) (c : Nat) (w : World) (hr : RT w base ok h u l) (hl : l.length < 1000000) (hc : x.f3.length ≤ c) (hF : Kd.F k27 w okx A x.f3.length x.f3) :
    RGET x A c h w fun e w' => ∃ (had : Bool) (z : S27) (Z : Option Addr) (cz : Nat), e = .returned (.tuple #[.agg #[.int .u8 z.f0, .int .i64 z.f1, .string z.f2, .slice Z z.f3.length cz, .int .i64 z.f4], .bool had]) ∧ z.f3.length ≤ cz ∧ Kd.F k27 w' ok Z z.f3.length z.f3 ∧ Ex (fun _ => False) w w' ∧ RGetP l x had z := by
  refine (rget_calls x A c w hr hl hc hF).mono ?_
  rintro e w' ⟨hx, ⟨hN, rfl⟩ | ⟨i, p, hA, rfl⟩⟩
  · exact ⟨false, z27, none, 0, rfl, Nat.le_refl _, Kd.F_nil k27 w' ok, hx, .inl ⟨rfl, rfl, hN⟩⟩
  · have hg := hr.good p (List.mem_of_getElem? hA.1)
    exact ⟨true, p.v, p.B, p.d, rfl, hg.lv, ex_F hx hg.fv (fun b hb hs => hs), hx, .inr ⟨rfl, i, p, hA, rfl⟩⟩
theorem rdrop_yes {ok okx : Nat → Prop} {base h : Nat} {u : Value} {l : List Pr} (x : S27) (A : Option Addr) (c : Nat) (w : World) (hr : RT w base ok h u l) (hl : l.length < 1000000) (hb : base ≤ w.heap.size) (hbh : base ≤ h) (hok : ∀ b, ok b → b < base) (hc : x.f3.length ≤ c) (hF : Kd.F k27 w okx A x.f3.length x.f3) :
    RDROP x A c h w fun e w' => ∃ (had : Bool) (u' : Value) (l' : List Pr), e = .returned (.bool had) ∧ Ex (fun b => b = h) w w' ∧ RT w' base ok h u' l' ∧ (u'.ownBlock = u.ownBlock ∨ ∀ b, u'.ownBlock = some b → w.heap.size ≤ b) ∧ RDropP l x had l' := by
  refine (rdrop_calls x A c w hr hl hb hbh hok hc hF).mono ?_
  rintro e w' ⟨hx, ⟨hN, rfl, hR⟩ | ⟨i, p, u', hA, rfl, hR, hu⟩⟩
  · exact ⟨false, u, l, rfl, hx, hR, .inl rfl, .inl ⟨rfl, hN, rfl⟩⟩
  · exact ⟨true, u', _, rfl, hx, hR, hu, .inr ⟨rfl, i, p, hA, rfl⟩⟩
end Go.Proofs.Ythkemcekcfccpaa.PBrandCompares
end
section
namespace Go.Proofs.Ythkemcekcfccpaa.PBrandCompares
open Go.RowKit Go.Proofs.YthkemcekcfccpaaW.PrintWords Go.Proofs.YthkemcekcfccpaaW.PrintLast Go.Proofs.YthkemcekcfccpaaW.PrintMore
attribute [local go_sem] max2_int min2_int max_two min_two max_three min_three max_four min_four   -- for this text's walks alone
set_option linter.unusedVariables false
set_option linter.unusedSimpArgs false
mutual
def posternlaw04_own.l0 : Nat → List (S27) → Int → Int → Int → ByteArray → List (S27) → Int → Option (Int × Int × ByteArray × (List (S27)) × Int)
  | 0, _, _, _, _, _, _, _ => none
  | k + 1, x3, x4, x172000, x172001, x172002, x172003, x172004 => if x4 < (x172003.length : Int) then (if 0 ≤ x4 then ((posternlaw04_own.f k ((rd_T27 x172003 x4).f0) ((rd_T27 x172003 x4).f1) ((rd_T27 x172003 x4).f2) ((rd_T27 x172003 x4).f3) ((rd_T27 x172003 x4).f4)).bind fun bt174 => (if x3.length < 2199023255552 then (posternlaw04_own.l0 k (x3 ++ [(⟨bt174.1, bt174.2.1, bt174.2.2.1, bt174.2.2.2.1, bt174.2.2.2.2⟩ : S27)]) (wrap64 (x4 + 1)) x172000 x172001 x172002 x172003 x172004) else (none))) else (none)) else (some (x172000, x172001, x172002, x3, x172004))
def posternlaw04_own.f : Nat → Int → Int → ByteArray → List (S27) → Int → Option (Int × Int × ByteArray × (List (S27)) × Int)
  | 0, _, _, _, _, _ => none
  | k + 1, a0_0, a0_1, a0_2, l0_3, a0_4 => posternlaw04_own.l0 k ([] : List (S27)) 0 a0_0 a0_1 a0_2 l0_3 a0_4
end
theorem posternlaw04_own.mono_l : ∀ k, (∀ y0 y1 y2 y3 y4, LeO (posternlaw04_own.f k y0 y1 y2 y3 y4) (posternlaw04_own.f (k + 1) y0 y1 y2 y3 y4)) ∧ (∀ y0 y1 y2 y3 y4 y5 y6, LeO (posternlaw04_own.l0 k y0 y1 y2 y3 y4 y5 y6) (posternlaw04_own.l0 (k + 1) y0 y1 y2 y3 y4 y5 y6))
  | 0 => ⟨fun _ _ _ _ _ r h => by simp [posternlaw04_own.f] at h, fun _ _ _ _ _ _ _ r h => by simp [posternlaw04_own.l0] at h⟩
  | k + 1 => by
    obtain ⟨ih0, ih1⟩ := posternlaw04_own.mono_l k
    refine ⟨?_, ?_⟩
    · intro y0 y1 y2 y3 y4
      unfold posternlaw04_own.f
      repeat' first
      | (with_reducible exact ih0 _ _ _ _ _)
      | (with_reducible exact ih1 _ _ _ _ _ _ _)
      | (with_reducible exact LeO.refl _)
      | (with_reducible exact LeO.none _)
      | (with_reducible refine LeO.ite ?_ ?_)
      | (with_reducible refine LeO.bind ?_ (fun _ => ?_))
      | exact ih0 _ _ _ _ _
      | exact ih1 _ _ _ _ _ _ _
      | exact LeO.none _
      | refine LeO.ite ?_ ?_
      | refine LeO.bind ?_ (fun _ => ?_)
    · intro y0 y1 y2 y3 y4 y5 y6
      unfold posternlaw04_own.l0
      repeat' first
      | (with_reducible exact ih0 _ _ _ _ _)
      | (with_reducible exact ih1 _ _ _ _ _ _ _)
      | (with_reducible exact LeO.refl _)
      | (with_reducible exact LeO.none _)
      | (with_reducible refine LeO.ite ?_ ?_)
      | (with_reducible refine LeO.bind ?_ (fun _ => ?_))
      | exact ih0 _ _ _ _ _
      | exact ih1 _ _ _ _ _ _ _
      | exact LeO.none _
      | refine LeO.ite ?_ ?_
      | refine LeO.bind ?_ (fun _ => ?_)
theorem posternlaw04_own.mono : ∀ a0 a1 a2 a3 a4 k, LeO (posternlaw04_own.f k a0 a1 a2 a3 a4) (posternlaw04_own.f (k + 1) a0 a1 a2 a3 a4) := by
  intro a0 a1 a2 a3 a4 k
  obtain ⟨ih0, ih1⟩ := posternlaw04_own.mono_l k
  exact ih0 a0 a1 a2 a3 a4
set_option maxHeartbeats 8000000 in
set_option maxRecDepth 100000 in
theorem posternlaw04_own.calls (k : Nat) : ∀ (a0_0 : Int) (a0_1 : Int) (a0_2 : ByteArray) (A0_3 : Option Addr) (c0_3 : Nat) (l0_3 : List (S27)) (a0_4 : Int) (r1 : Int) (r2 : Int) (r3 : ByteArray) (r4 : List (S27)) (r5 : Int) (w : World) (hr0_3 : Kd.C k27 w A0_3 l0_3.length l0_3) (hc0_3 : l0_3.length ≤ c0_3) (h : posternlaw04_own.f k a0_0 a0_1 a0_2 l0_3 a0_4 = some (r1, r2, r3, r4, r5)),
    Calls Try.prog 42 #[.agg #[.int .u8 a0_0, .int .i64 a0_1, .string a0_2, .slice A0_3 l0_3.length c0_3, .int .i64 a0_4]] w fun e w' => ∃ v3_ : Value, e = .returned (.agg #[.int .u8 r1, .int .i64 r2, .string r3, v3_, .int .i64 r5]) ∧ Kd.R k27 27 w' w.heap.size (fun _ => True) v3_ r4 ∧ Below w.heap.size w w' := by
  induction k using Nat.strongRecOn with
  | _ k ih =>
  intro a0_0 a0_1 a0_2 A0_3 c0_3 l0_3 a0_4 r1 r2 r3 r4 r5 w hr0_3 hc0_3 h
  cases k with
  | zero => exact absurd h (by simp [posternlaw04_own.f])
  | succ k =>
  simp only [posternlaw04_own.f] at h
  have hu27 := Try.underlying27
  have HR0_3 := Aside0.mk hr0_3
  have HC0_3 := Aside0.mk hc0_3
  clear hr0_3 hc0_3
  have HB := Aside0.mk (Below.refl w.heap.size w)
  have H : (posternlaw04_own.l0 k ([] : List (S27)) 0 a0_0 a0_1 a0_2 l0_3 a0_4) = some (r1, r2, r3, r4, r5) := h
  clear h
  have H' := Aside0.mk H
  clear H
  go_enter Try.func42, Try.ntmps42
  go_wp2_with (first | ((with_reducible refine gate_dst (N := 1) rfl ?_); refine box_event ?hg (N := 1) ?hd (cs := #[.int .u8 a0_0, .int .i64 a0_1, .string a0_2, .slice A0_3 l0_3.length c0_3, .int .i64 a0_4]) (t := 27) ?hr ?_; (case hd => rfl); (case hg => rfl); (case hr => first | (go_simp; done) | (go_simp; rfl)); intro gb171 hg w2 hbox hb; have n0_ := Aside0.mk (below_step (by repeat (first | (with_reducible first | exact HB.out | apply below_alloc | apply pw_below_drewN | apply below_drew1) | exact HB.out)) hb); have n1_ := Aside0.mk (hbox); have n2_ := Aside0.mk ((by rw [hg]; exact (below_size (by repeat (first | (with_reducible first | exact HB.out | apply below_alloc | apply pw_below_drewN | apply below_drew1) | exact HB.out))) : w.heap.size ≤ gb171)); have n3_ := Aside0.mk ((by rw [hg]; exact (below_size (by repeat (first | (with_reducible first | exact HB.out | apply below_alloc | apply pw_below_drewN | apply below_drew1) | exact HB.out))) : w.heap.size ≤ gb171)); clear HB; have HB := n0_; have BK171 := n1_; have GW171 := n2_; have GE171 := n3_; clear n0_ n1_ n2_ n3_; clear hb hbox hg) | ((with_reducible refine gate_dst (N := 2) rfl ?_); refine box_event ?hg (N := 2) ?hd (cs := #[.int .u8 0, .int .i64 0, .string (⟨#[]⟩ : ByteArray), .slice none 0 0, .int .i64 0]) (t := 27) ?hr ?_; (case hd => rfl); (case hg => rfl); (case hr => first | (go_simp; done) | (go_simp; rfl)); intro gb172 hg w3 hbox hb; have n0_ := Aside0.mk (blk_below (g := gb171) (o := .cells #[.int .u8 a0_0, .int .i64 a0_1, .string a0_2, .slice A0_3 l0_3.length c0_3, .int .i64 a0_4] 27 (0, 0)) (by (with_reducible repeat (first | refine blk_drewN ?_ _ | refine blk_drew ?_ | refine blk_alloc ?_ _)); exact BK171.out) hb); have n1_ := Aside0.mk (below_step (by repeat (first | (with_reducible first | exact HB.out | apply below_alloc | apply pw_below_drewN | apply below_drew1 | refine below_set ?_ GE171.out) | exact HB.out)) hb); have n2_ := Aside0.mk (hbox); have n3_ := Aside0.mk ((by rw [hg]; exact (below_size (by repeat (first | (with_reducible first | exact HB.out | apply below_alloc | apply pw_below_drewN | apply below_drew1 | refine below_set ?_ GE171.out) | exact HB.out))) : w.heap.size ≤ gb172)); have n4_ := Aside0.mk ((by rw [hg]; exact (below_size (by repeat (first | (with_reducible first | exact HB.out | apply below_alloc | apply pw_below_drewN | apply below_drew1 | refine below_set ?_ GE171.out) | exact HB.out))) : w.heap.size ≤ gb172)); have n5_ := Aside0.mk ((by rw [hg]; exact Nat.ne_of_lt (blk_lt (g := gb171) (o := .cells #[.int .u8 a0_0, .int .i64 a0_1, .string a0_2, .slice A0_3 l0_3.length c0_3, .int .i64 a0_4] 27 (0, 0)) (by (with_reducible repeat (first | refine blk_drewN ?_ _ | refine blk_drew ?_ | refine blk_alloc ?_ _)); exact BK171.out)) : gb171 ≠ gb172)); have n6_ := Aside0.mk ((by rw [hg]; exact Nat.ne_of_gt (blk_lt (g := gb171) (o := .cells #[.int .u8 a0_0, .int .i64 a0_1, .string a0_2, .slice A0_3 l0_3.length c0_3, .int .i64 a0_4] 27 (0, 0)) (by (with_reducible repeat (first | refine blk_drewN ?_ _ | refine blk_drew ?_ | refine blk_alloc ?_ _)); exact BK171.out)) : gb172 ≠ gb171)); clear BK171; clear HB; have BK171 := n0_; have HB := n1_; have BK172 := n2_; have GW172 := n3_; have GE172 := n4_; have NB171_172 := n5_; have NB172_171 := n6_; clear n0_ n1_ n2_ n3_ n4_ n5_ n6_; clear hb hbox hg))
  go_loopg [3, 4] k (fun kq v3 v4 w' => ∃ (x3_1 : List (S27)) (x4_1 : Int), v4 = .int .i64 x4_1 ∧ Aside0 (posternlaw04_own.l0 kq x3_1 x4_1 a0_0 a0_1 a0_2 l0_3 a0_4 = some (r1, r2, r3, r4, r5)) ∧ Aside0 (kq ≤ k) ∧ Aside0 (Kd.R k27 27 w' w.heap.size (fun k_ => k_ ≠ gb171 ∧ k_ ≠ gb172) v3 x3_1) ∧ Aside0 (w'.heap[gb171]? = some (.cells #[.int .u8 a0_0, .int .i64 a0_1, .string a0_2, (.slice A0_3 l0_3.length c0_3), .int .i64 a0_4] 27 (0, 0))) ∧ Aside0 (w'.heap[gb172]? = some (.cells #[.int .u8 0, .int .i64 0, .string (⟨#[]⟩ : ByteArray), (.slice none 0 0), .int .i64 0] 27 (0, 0))) ∧ Aside0 (Below w.heap.size w w'))
  case atStart => exact ⟨(([] : List (S27))), (0), (by first | rfl | (simp; done) | (simp [*]; done)), H', ⟨Nat.le_refl _⟩, ⟨by first | exact Kd.R_nil _ _ _ _ _ | exact Kd.N_nil _ _ _ _ _ | exact Kd.V_nil _ _ _ _ _ | exact Kd.Q_nil _ _ _ _ _ | exact Kd.S_nil _ _ _ _ _⟩, ⟨by (with_reducible repeat (first | refine blk_drewN ?_ _ | refine blk_drew ?_ | refine blk_alloc ?_ _)); exact BK171.out⟩, ⟨by (with_reducible repeat (first | refine blk_drewN ?_ _ | refine blk_drew ?_ | refine blk_alloc ?_ _)); exact BK172.out⟩, ⟨by repeat (first | (with_reducible first | exact HB.out | apply below_alloc | apply pw_below_drewN | apply below_drew1 | refine below_set ?_ GE171.out | refine below_set ?_ GE172.out) | exact HB.out)⟩⟩
  case round =>
    clear H'
    try clear p2
    obtain ⟨x3_1, x4_1, rfl, HA, HK1, HO_3, BK171, BK172, HB⟩ := hrel
    cases gk with
    | zero => exact absurd HA.out (by simp [posternlaw04_own.l0])
    | succ k1 =>
      have H := HA.out
      clear HA
      simp only [posternlaw04_own.l0] at H
      by_cases c4 : x4_1 < (l0_3.length : Int)
      · rw [if_pos c4] at H
        have c4b0 : decide (x4_1 < (l0_3.length : Int)) = true := decide_eq_true c4
        clear c4
        by_cases c5 : 0 ≤ x4_1
        · rw [if_pos c5] at H
          have c5b0 : decide (0 ≤ x4_1) = true := decide_eq_true c5
          clear c5
          replace H := Option.bind_eq_some_iff.mp H
          obtain ⟨⟨t174, t175, t176, t177, t180⟩, A60, H⟩ := H
          replace H : (if x3_1.length < 2199023255552 then (posternlaw04_own.l0 k1 (x3_1 ++ [(⟨t174, t175, t176, t177, t180⟩ : S27)]) (wrap64 (x4_1 + 1)) a0_0 a0_1 a0_2 l0_3 a0_4) else (none)) = some (r1, r2, r3, r4, r5) := H
          have A6 := Aside0.mk A60
          clear A60
          by_cases c7 : x3_1.length < 2199023255552
          · rw [if_pos c7] at H
            have LMc7 := Aside0.mk c7
            clear c7
            obtain ⟨y181, hy181⟩ : ∃ y_ : List (S27), y_ = (x3_1 ++ [(⟨t174, t175, t176, t177, t180⟩ : S27)]) := ⟨_, rfl⟩
            replace H : (posternlaw04_own.l0 k1 y181 (wrap64 (x4_1 + 1)) a0_0 a0_1 a0_2 l0_3 a0_4) = some (r1, r2, r3, r4, r5) := by first | (rw [hy181]; with_reducible exact H) | (have H2_ := (Option.bind_some _ _).symm.trans H; rw [hy181]; with_reducible exact H2_) | (have H2_ := (Option.bind_some _ _).symm.trans H; with_reducible exact H2_) | with_reducible exact H | (rw [hy181]; exact H) | exact H
            have Ny181 := Aside0.mk hy181
            clear hy181
            have H' := Aside0.mk H
            clear H
            have hnb8 := NB171_172.out
            have hnc8 := NB172_171.out
            have hcz9_0 : wr.cell? ⟨gb171, 0, none⟩ = some (.int .u8 a0_0) := (blk_cell BK171.out 0).trans rfl
            have hcz9_1 : wr.cell? ⟨gb171, 1, none⟩ = some (.int .i64 a0_1) := (blk_cell BK171.out 1).trans rfl
            have hcz9_2 : wr.cell? ⟨gb171, 2, none⟩ = some (.string a0_2) := (blk_cell BK171.out 2).trans rfl
            have hcz9_3 : wr.cell? ⟨gb171, 3, none⟩ = some (.slice A0_3 l0_3.length c0_3) := (blk_cell BK171.out 3).trans rfl
            have hcz9_4 : wr.cell? ⟨gb171, 4, none⟩ = some (.int .i64 a0_4) := (blk_cell BK171.out 4).trans rfl
            have hfz9_0 := blk_frozen BK171.out 0
            have hfz9_1 := blk_frozen BK171.out 1
            have hfz9_2 := blk_frozen BK171.out 2
            have hfz9_3 := blk_frozen BK171.out 3
            have hfz9_4 := blk_frozen BK171.out 4
            have p173 : 0 ≤ (x4_1 : Int) := of_decide_eq_true (by first | (with_reducible assumption) | assumption)
            have q173 : x4_1 < (l0_3.length : Int) := of_decide_eq_true (by first | (with_reducible assumption) | assumption)
            obtain ⟨ad173, A173_3, c173_3, e173, hx173_0, hx173_1, hx173_2, hx173_3, hx173_4, hl173_3, hi173_3⟩ := at_T27 HR0_3.out x4_1 p173 q173
            cases e173
            replace hx173_0 := (HB.out.cell (World.block_lt_of_cell? w _ hx173_0)).trans hx173_0
            replace hx173_1 := (HB.out.cell (World.block_lt_of_cell? w _ hx173_1)).trans hx173_1
            replace hx173_2 := (HB.out.cell (World.block_lt_of_cell? w _ hx173_2)).trans hx173_2
            replace hx173_3 := (HB.out.cell (World.block_lt_of_cell? w _ hx173_3)).trans hx173_3
            replace hx173_4 := (HB.out.cell (World.block_lt_of_cell? w _ hx173_4)).trans hx173_4
            have HR173_3 := Aside0.mk hi173_3
            have HC173_3 := Aside0.mk hl173_3
            clear hi173_3 hl173_3
            replace p173 := eq_true p173
            replace q173 := eq_true q173
            go_wp2_with (first | ((with_reducible refine gate_callee (f := 42) rfl ?_); refine goesL_ (some 18) rfl rfl Try.func42 (by kernel_rfl) rfl #[.agg #[.int .u8 ((rd_T27 l0_3 x4_1).f0), .int .i64 ((rd_T27 l0_3 x4_1).f1), .string ((rd_T27 l0_3 x4_1).f2), .slice A173_3 ((rd_T27 l0_3 x4_1).f3).length c173_3, .int .i64 ((rd_T27 l0_3 x4_1).f4)]] rfl (by (try simp only [List.map_toArray, List.map_cons, List.map_nil]); first | done | rfl | (simp only [List.length_drop, List.length_take]; rfl)) ?_; (with_reducible refine (ih k1 (by have := HK1.out; omega) ((rd_T27 l0_3 x4_1).f0) ((rd_T27 l0_3 x4_1).f1) ((rd_T27 l0_3 x4_1).f2) _ _ ((rd_T27 l0_3 x4_1).f3) ((rd_T27 l0_3 x4_1).f4) t174 t175 t176 t177 t180 _ ?side1 ?side2 A6.out).mono ?_); (case side1 => repeat (first | exact (Kd.C_below HR173_3.out HB.out) | (with_reducible refine Kd.C_alloc ?_ _) | (with_reducible refine Kd.C_drewN ?_ _) | (with_reducible refine Kd.C_drew ?_))); (case side2 => exact HC173_3.out); rintro e w10 ⟨v178, rfl, ho0, hb⟩; refine ⟨_, rfl, ?_⟩; have n0_ := Aside0.mk (Kd.R_elder' (by (with_reducible repeat (first | apply Kd.R_alloc | apply Kd.R_drewN | apply Kd.R_drew)); exact HO_3.out) (Kd.R_base ho0) hb); have n1_ := Aside0.mk (Kd.R_lower (Kd.R_newB (Kd.R_newB (Kd.R_new' ho0 (Kd.R_lt (by (with_reducible repeat (first | apply Kd.R_alloc | apply Kd.R_drewN | apply Kd.R_drew)); exact HO_3.out))) (g := gb171) (o := .cells #[.int .u8 a0_0, .int .i64 a0_1, .string a0_2, .slice (some ad173) l0_3.length c0_3, .int .i64 a0_4] 27 (0, 0)) (by (with_reducible repeat (first | refine blk_drewN ?_ _ | refine blk_drew ?_ | refine blk_alloc ?_ _)); exact BK171.out)) (g := gb172) (o := .cells #[.int .u8 0, .int .i64 0, .string (⟨#[]⟩ : ByteArray), .slice none 0 0, .int .i64 0] 27 (0, 0)) (by (with_reducible repeat (first | refine blk_drewN ?_ _ | refine blk_drew ?_ | refine blk_alloc ?_ _)); exact BK172.out)) (below_size (by repeat (first | (with_reducible first | exact HB.out | apply below_alloc | apply pw_below_drewN | apply below_drew1 | refine below_set ?_ GE171.out | refine below_set ?_ GE172.out) | exact HB.out)))); have n2_ := Aside0.mk (blk_below (g := gb171) (o := .cells #[.int .u8 a0_0, .int .i64 a0_1, .string a0_2, .slice (some ad173) l0_3.length c0_3, .int .i64 a0_4] 27 (0, 0)) (by (with_reducible repeat (first | refine blk_drewN ?_ _ | refine blk_drew ?_ | refine blk_alloc ?_ _)); exact BK171.out) hb); have n3_ := Aside0.mk (blk_below (g := gb172) (o := .cells #[.int .u8 0, .int .i64 0, .string (⟨#[]⟩ : ByteArray), .slice none 0 0, .int .i64 0] 27 (0, 0)) (by (with_reducible repeat (first | refine blk_drewN ?_ _ | refine blk_drew ?_ | refine blk_alloc ?_ _)); exact BK172.out) hb); have n4_ := Aside0.mk (below_step (by repeat (first | (with_reducible first | exact HB.out | apply below_alloc | apply pw_below_drewN | apply below_drew1 | refine below_set ?_ GE171.out | refine below_set ?_ GE172.out) | exact HB.out)) hb); clear HO_3; clear BK171; clear BK172; clear HB; have HO_3 := n0_; have HO179 := n1_; have BK171 := n2_; have BK172 := n3_; have HB := n4_; clear n0_ n1_ n2_ n3_ n4_; (try clear hb); (try clear hb2); (try clear hk); (try clear hi); (try clear ho0); obtain ⟨Ao12, co12, eo12⟩ := Kd.R_slice HO179.out; subst eo12) | ((with_reducible refine gate_builtin (b := .append) (xs := #[.tmp 12, .tmp 19]) rfl ?_); at_builtin; refine Kd.R_append k27 (w0 := w) w.heap.size rfl (.tmp 12) (.tmp 19) 24 27 (.agg #[(.int .u8 0), (.int .i64 0), (.string ⟨#[]⟩), (.slice none 0 0), (.int .i64 0)]) 64 rfl Try.underlying24 info27 rfl (by decide) (by omega) u3 x3_1 (⟨t174, t175, t176, t177, t180⟩ : S27) [.int .u8 t174, .int .i64 t175, .string t176, .slice Ao12 t177.length co12, .int .i64 t180] (fun k_ => k_ ≠ gb171 ∧ k_ ≠ gb172) (fun k_ => ((fun k_ => k_ ≠ gb171 ∧ k_ ≠ gb172)) k_ ∧ some k_ ≠ (u3 : Value).ownBlock) rfl rfl ?aP (fun _ hk => hk) ?aF ?aO ?aB ?aS ?aL ?_; (case aP => exact k27_mkM _ _ _ (⟨t174, t175, t176, t177, t180⟩ : S27) (Kd.R_mono (HO179.out) (fun k_ hk => ⟨⟨hk.1.2, hk.2⟩, hk.1.1.2⟩))); (case aB => exact (by repeat (first | (with_reducible first | exact HB.out | apply below_alloc | apply pw_below_drewN | apply below_drew1 | refine below_set ?_ GE171.out | refine below_set ?_ GE172.out) | exact HB.out))); (case aF => exact (fun k_ hk => ⟨Kd.freshB (g := gb171) (o := .cells #[.int .u8 a0_0, .int .i64 a0_1, .string a0_2, .slice (some ad173) l0_3.length c0_3, .int .i64 a0_4] 27 (0, 0)) (by (with_reducible repeat (first | refine blk_drewN ?_ _ | refine blk_drew ?_ | refine blk_alloc ?_ _)); exact BK171.out) k_ hk, Kd.freshB (g := gb172) (o := .cells #[.int .u8 0, .int .i64 0, .string (⟨#[]⟩ : ByteArray), .slice none 0 0, .int .i64 0] 27 (0, 0)) (by (with_reducible repeat (first | refine blk_drewN ?_ _ | refine blk_drew ?_ | refine blk_alloc ?_ _)); exact BK172.out) k_ hk⟩)); (case aO => exact (by (with_reducible repeat (first | apply Kd.R_alloc | apply Kd.R_drewN | apply Kd.R_drew)); exact Kd.R_mono HO_3.out (fun _ hk => ⟨hk.1.1, hk.1.2⟩))); (case aS => exact (below_size (by repeat (first | (with_reducible first | exact HB.out | apply below_alloc | apply pw_below_drewN | apply below_drew1 | refine below_set ?_ GE171.out | refine below_set ?_ GE172.out) | exact HB.out)))); (case aL => have := LMc7.out; omega); intro v182 w11 ho hb hg hat; rw [← Ny181.out] at ho; have n0_ := Aside0.mk (blk_grown (g := gb171) (o := .cells #[.int .u8 a0_0, .int .i64 a0_1, .string a0_2, .slice (some ad173) l0_3.length c0_3, .int .i64 a0_4] 27 (0, 0)) (by (with_reducible repeat (first | refine blk_drewN ?_ _ | refine blk_drew ?_ | refine blk_alloc ?_ _)); exact BK171.out) hg (Kd.R_away HO_3.out (fun _ hk => hk.1.1))); have n1_ := Aside0.mk (blk_grown (g := gb172) (o := .cells #[.int .u8 0, .int .i64 0, .string (⟨#[]⟩ : ByteArray), .slice none 0 0, .int .i64 0] 27 (0, 0)) (by (with_reducible repeat (first | refine blk_drewN ?_ _ | refine blk_drew ?_ | refine blk_alloc ?_ _)); exact BK172.out) hg (Kd.R_away HO_3.out (fun _ hk => hk.1.2))); have n2_ := Aside0.mk (hb); have n3_ := Aside0.mk (ho); clear BK171; clear BK172; clear HB; clear HO_3; clear HO179; have BK171 := n0_; have BK172 := n1_; have HB := n2_; have HO183 := n3_; clear n0_ n1_ n2_ n3_; clear ho hb hg hat))
            go_roundg k1
            case measure => have := HK1.out; omega
            case rel => exact ⟨(y181), (wrap64 (x4_1 + 1)), (by first | rfl | (simp; done) | (simp [*]; done)), H', ⟨by have := HK1.out; omega⟩, ⟨by (with_reducible repeat (first | apply Kd.R_alloc | apply Kd.R_drewN | apply Kd.R_drew)); exact HO183.out⟩, ⟨by (with_reducible repeat (first | refine blk_drewN ?_ _ | refine blk_drew ?_ | refine blk_alloc ?_ _)); exact BK171.out⟩, ⟨by (with_reducible repeat (first | refine blk_drewN ?_ _ | refine blk_drew ?_ | refine blk_alloc ?_ _)); exact BK172.out⟩, ⟨by repeat (first | (with_reducible first | exact HB.out | apply below_alloc | apply pw_below_drewN | apply below_drew1 | refine below_set ?_ GE171.out | refine below_set ?_ GE172.out) | exact HB.out)⟩⟩
          · rw [if_neg c7] at H
            exact absurd H (by simp)
        · rw [if_neg c5] at H
          exact absurd H (by simp)
      · rw [if_neg c4] at H
        have c4b0 : decide (x4_1 < (l0_3.length : Int)) = false := decide_eq_false c4
        clear c4
        simp only [Option.some.injEq, Prod.mk.injEq] at H
        obtain ⟨rfl, rfl, rfl, rfl, rfl⟩ := H
        have hnb13 := NB171_172.out
        have hnc13 := NB172_171.out
        have hcz14_0 : wr.cell? ⟨gb171, 0, none⟩ = some (.int .u8 a0_0) := (blk_cell BK171.out 0).trans rfl
        have hcz14_1 : wr.cell? ⟨gb171, 1, none⟩ = some (.int .i64 a0_1) := (blk_cell BK171.out 1).trans rfl
        have hcz14_2 : wr.cell? ⟨gb171, 2, none⟩ = some (.string a0_2) := (blk_cell BK171.out 2).trans rfl
        have hcz14_3 : wr.cell? ⟨gb171, 3, none⟩ = some (.slice A0_3 l0_3.length c0_3) := (blk_cell BK171.out 3).trans rfl
        have hcz14_4 : wr.cell? ⟨gb171, 4, none⟩ = some (.int .i64 a0_4) := (blk_cell BK171.out 4).trans rfl
        have hfz14_0 := blk_frozen BK171.out 0
        have hfz14_1 := blk_frozen BK171.out 1
        have hfz14_2 := blk_frozen BK171.out 2
        have hfz14_3 := blk_frozen BK171.out 3
        have hfz14_4 := blk_frozen BK171.out 4
        obtain ⟨Ao15, co15, eo15⟩ := Kd.R_slice HO_3.out
        subst eo15
        have hcz16_0 : wr.cell? ⟨gb172, 0, none⟩ = some (.int .u8 0) := (blk_cell BK172.out 0).trans rfl
        have hcz16_1 : wr.cell? ⟨gb172, 1, none⟩ = some (.int .i64 0) := (blk_cell BK172.out 1).trans rfl
        have hcz16_2 : wr.cell? ⟨gb172, 2, none⟩ = some (.string (⟨#[]⟩ : ByteArray)) := (blk_cell BK172.out 2).trans rfl
        have hcz16_3 : wr.cell? ⟨gb172, 3, none⟩ = some (.slice none 0 0) := (blk_cell BK172.out 3).trans rfl
        have hcz16_4 : wr.cell? ⟨gb172, 4, none⟩ = some (.int .i64 0) := (blk_cell BK172.out 4).trans rfl
        have hfz16_0 := blk_frozen BK172.out 0
        have hfz16_1 := blk_frozen BK172.out 1
        have hfz16_2 := blk_frozen BK172.out 2
        have hfz16_3 := blk_frozen BK172.out 3
        have hfz16_4 := blk_frozen BK172.out 4
        go_wp2
        refine bodyPost_ret (results_cell_row rfl _ _ gb172 27 #[.int .u8 a0_0, .int .i64 a0_1, .string a0_2, .slice Ao15 x3_1.length co15, .int .i64 a0_4] (0, 0) _ rfl (by (with_reducible repeat (first | refine blk_drewN ?_ _ | refine blk_drew ?_ | refine blk_alloc ?_ _)); refine blk_put (cs := #[.int .u8 a0_0, .int .i64 a0_1, .string a0_2, .slice Ao15 x3_1.length co15, .int .i64 0]) ?_ 4 _ rfl; (with_reducible repeat (first | refine blk_drewN ?_ _ | refine blk_drew ?_ | refine blk_alloc ?_ _)); refine blk_put (cs := #[.int .u8 a0_0, .int .i64 a0_1, .string a0_2, .slice none 0 0, .int .i64 0]) ?_ 3 _ rfl; (with_reducible repeat (first | refine blk_drewN ?_ _ | refine blk_drew ?_ | refine blk_alloc ?_ _)); refine blk_put (cs := #[.int .u8 a0_0, .int .i64 a0_1, .string (⟨#[]⟩ : ByteArray), .slice none 0 0, .int .i64 0]) ?_ 2 _ rfl; (with_reducible repeat (first | refine blk_drewN ?_ _ | refine blk_drew ?_ | refine blk_alloc ?_ _)); refine blk_put (cs := #[.int .u8 a0_0, .int .i64 0, .string (⟨#[]⟩ : ByteArray), .slice none 0 0, .int .i64 0]) ?_ 1 _ rfl; (with_reducible repeat (first | refine blk_drewN ?_ _ | refine blk_drew ?_ | refine blk_alloc ?_ _)); refine blk_put (cs := #[.int .u8 0, .int .i64 0, .string (⟨#[]⟩ : ByteArray), .slice none 0 0, .int .i64 0]) ?_ 0 _ rfl; (with_reducible repeat (first | refine blk_drewN ?_ _ | refine blk_drew ?_ | refine blk_alloc ?_ _)); refine blk_far ?_ NB172_171.out _; (with_reducible repeat (first | refine blk_drewN ?_ _ | refine blk_drew ?_ | refine blk_alloc ?_ _)); exact BK172.out) Try.underlying27 rfl (by kernel_rfl)) rfl ?_
        exact ⟨_, by first | rfl | (simp [errW_none, errW_some] <;> rfl) | (simp [*, errW_none, errW_some] <;> rfl), by (with_reducible repeat (first | apply Kd.R_alloc | apply Kd.R_drewN | apply Kd.R_drew)); exact Kd.R_mono (Kd.R_far (p := ⟨gb172, 4, none⟩) (Kd.R_far (p := ⟨gb172, 3, none⟩) (Kd.R_far (p := ⟨gb172, 2, none⟩) (Kd.R_far (p := ⟨gb172, 1, none⟩) (Kd.R_far (p := ⟨gb172, 0, none⟩) (Kd.R_far (p := ⟨gb171, 3, none⟩) (Kd.R_mono (Kd.R_mono HO_3.out (fun k_ hk => (⟨hk, hk.1⟩ : _ ∧ k_ ≠ gb171))) (fun k_ hk => (⟨hk, hk.1.2⟩ : _ ∧ k_ ≠ gb172))) (fun _ hk => hk.1.2) (.slice Ao15 x3_1.length co15)) (fun _ hk => hk.2) (.int .u8 a0_0)) (fun _ hk => hk.2) (.int .i64 a0_1)) (fun _ hk => hk.2) (.string a0_2)) (fun _ hk => hk.2) (.slice Ao15 x3_1.length co15)) (fun _ hk => hk.2) (.int .i64 a0_4)) (fun _ hk => trivial), by repeat (first | (with_reducible first | exact HB.out | apply below_alloc | apply pw_below_drewN | apply below_drew1 | refine below_set ?_ GE171.out | refine below_set ?_ GE172.out) | exact HB.out)⟩
end Go.Proofs.Ythkemcekcfccpaa.PBrandCompares
end
section
namespace Go.Proofs.Ythkemcekcfccpaa.PBrandCompares
open Go.RowKit Go.Proofs.YthkemcekcfccpaaW.PrintWords Go.Proofs.YthkemcekcfccpaaW.PrintLast Go.Proofs.YthkemcekcfccpaaW.PrintMore
open Go.Proofs.Ythkemcekcfccpaa.GBrandCompares
set_option linter.unusedVariables false
set_option linter.unusedSimpArgs false
theorem le_lown {j k : Nat} (h : j ≤ k) {x : S27} {r : Int × Int × ByteArray × List S27 × Int} (hr : posternlaw04_own.f j x.f0 x.f1 x.f2 x.f3 x.f4 = some r) : posternlaw04_own.f k x.f0 x.f1 x.f2 x.f3 x.f4 = some r := by
  induction h with
  | refl => exact hr
  | step _ ih => exact posternlaw04_own.mono _ _ _ _ _ _ _ ih
theorem lown_loop (xs : List S27) (hlen : xs.length ≤ 511) (a b : Int) (s : ByteArray) (r : Int) (K : Nat) (hK : ∀ y ∈ xs, posternlaw04_own.f K y.f0 y.f1 y.f2 y.f3 y.f4 = some (y.f0, y.f1, y.f2, y.f3, y.f4)) :
    ∀ (m i : Nat), i + m = xs.length → posternlaw04_own.l0 (K + m + 1) (xs.take i) (i : Int) a b s xs r = some (a, b, s, xs, r) := by
  intro m
  induction m with
  | zero =>
    intro i hi
    unfold posternlaw04_own.l0
    rw [if_neg (by omega), List.take_of_length_le (by omega)]
  | succ m ih =>
    intro i hi
    have hlt : i < xs.length := by omega
    rw [show K + (m + 1) + 1 = (K + m + 1) + 1 by omega]
    unfold posternlaw04_own.l0
    rw [if_pos (by omega), if_pos (by omega)]
    have hm := rd_mem (xs := xs) (i := i) hlt
    rw [le_lown (x := rd_T27 xs (i : Int)) (show K ≤ K + m + 1 by omega) (hK _ hm)]
    simp only [Option.bind_some]
    rw [if_pos (by rw [List.length_take]; omega)]
    rw [show wrap64 ((i : Int) + 1) = ((i + 1 : Nat) : Int) by simp only [wrap64]; omega]
    have he : xs.take i ++ [(⟨(rd_T27 xs (i : Int)).f0, (rd_T27 xs (i : Int)).f1, (rd_T27 xs (i : Int)).f2, (rd_T27 xs (i : Int)).f3, (rd_T27 xs (i : Int)).f4⟩ : S27)] = xs.take (i + 1) := by
      rw [List.take_succ_eq_append_getElem hlt]
      congr 2
      unfold rd_T27
      rw [Int.toNat_natCast, List.getD_eq_getElem?_getD, List.getElem?_eq_getElem hlt, Option.getD_some]
      generalize xs[i] = q
      cases q
      rfl
    rw [he]
    exact ih (i + 1) (by omega)
theorem lown_pure (n : Nat) : ∃ K, ∀ x : S27, Small n x → posternlaw04_own.f K x.f0 x.f1 x.f2 x.f3 x.f4 = some (x.f0, x.f1, x.f2, x.f3, x.f4) := by
  induction n with
  | zero =>
    refine ⟨2, fun x hx => ?_⟩
    simp only [Small] at hx
    unfold posternlaw04_own.f
    have := lown_loop [] (by simp) x.f0 x.f1 x.f2 x.f4 0 (by simp) 0 0 rfl
    rw [hx]
    exact this
  | succ n ih =>
    obtain ⟨K, hK⟩ := ih
    refine ⟨K + 511 + 2, fun x hx => ?_⟩
    obtain ⟨hl, hy⟩ := hx
    unfold posternlaw04_own.f
    have h := lown_loop x.f3 hl x.f0 x.f1 x.f2 x.f4 (K + (511 - x.f3.length)) (fun y hm => le_lown (by omega) (hK y (hy y hm))) x.f3.length 0 (by omega)
    rw [show K + 511 + 1 = K + (511 - x.f3.length) + x.f3.length + 1 by omega]
    exact h
theorem lown_calls (x : S27) (A : Option Addr) (c : Nat) (w : World) (ok : Nat → Prop) (hc : x.f3.length ≤ c) (hF : Kd.F k27 w ok A x.f3.length x.f3) (hm : mayV x = true) :
    Calls Try.prog 42 #[.agg #[.int .u8 x.f0, .int .i64 x.f1, .string x.f2, .slice A x.f3.length c, .int .i64 x.f4]] w fun e w' => ∃ v, e = .returned v ∧ Owned x w v w' := by
  obtain ⟨K, hK⟩ := lown_pure 16
  refine (posternlaw04_own.calls K x.f0 x.f1 x.f2 A c x.f3 x.f4 _ _ _ _ _ w (Kd.F_now hF) hc (hK x (may_small hm))).mono ?_
  rintro e w1 ⟨v3, rfl, hR, hB⟩
  obtain ⟨A3, c3, rfl, l3, _⟩ := Kd.R_reads hR
  exact ⟨_, rfl, A3, c3, rfl, l3, Kd.R_mono (Kd.R_bound hR) (fun k hk => hk.2.1), Ex.of_below hB⟩
end Go.Proofs.Ythkemcekcfccpaa.PBrandCompares
end
