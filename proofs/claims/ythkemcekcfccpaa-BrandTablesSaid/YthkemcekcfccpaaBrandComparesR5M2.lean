/- Lemmas for R5. -/
import Derived.Test.YthkemcekcfccpaaBrandComparesR5M1
import Derived.RangeFuncNested
import Derived.RangeFuncBound
import Derived.RangeFuncCalls
import Derived.RangeFuncLeaves
import Derived.RangeFuncWrites
import Derived.ControlIn
import Derived.OrdersIn
import Derived.Test.YthkemcekcfccpaaBrandComparesR5M0
import Derived.Shelf.Abstract
import Derived.Shelf.RegionOpen
import Derived.WalkKit
import Derived.OwnWalkIn
import Derived.TacticsInMore
import Derived.LoopNIn
import Derived.LoopIn
import Derived.Test.YthkemcekcfccpaaBrandComparesR5Px2
import Derived.Deep.DeepCutAuto
section
namespace Go.Proofs.Ythkemcekcfccpaa.PBrandCompares
open Go.RowKit Go.Proofs.YthkemcekcfccpaaW.PrintWords Go.Proofs.YthkemcekcfccpaaW.PrintLast Go.Proofs.YthkemcekcfccpaaW.PrintMore
open Go.Proofs.Ythkemcekcfccpaa.GBrandCompares
set_option linter.unusedVariables false
set_option linter.unusedSimpArgs false
def Copied (x : S27) (n : Nat) (v : Value) (w : World) : Prop := ∃ (A : Option Addr) (c : Nat), v = .agg #[.int .u8 x.f0, .int .i64 x.f1, .string x.f2, .slice A x.f3.length c, .int .i64 x.f4] ∧ x.f3.length ≤ c ∧ Kd.R k27 27 w n (fun k => n ≤ k) (.slice A x.f3.length c) x.f3
theorem Copied.ex {x : S27} {n : Nat} {v : Value} {w w1 : World} (h : Copied x n v w) (hx : Ex (fun _ => False) w w1) : Copied x n v w1 :=
  let ⟨A, c, h1, h2, h3⟩ := h; ⟨A, c, h1, h2, ex_R hx h3 (fun _ _ h => h)⟩
theorem Copied.of {x : S27} {n : Nat} {v : Value} {w w1 : World} (h : Owned x w v w1) (hn : n ≤ w.heap.size) : Copied x n v w1 :=
  let ⟨A, c, h1, h2, h3, _⟩ := h; ⟨A, c, h1, h2, Kd.R_lower (Kd.R_mono h3 (fun k hk => Nat.le_trans hn hk)) hn⟩
def Joined (s : Row) (n : Nat) (v : Value) (w : World) : Prop := ∃ (A : Option Addr) (c : Nat) (B : Option Addr) (d : Nat), v = .agg #[.int .u8 s.k.f0, .int .i64 s.k.f1, .string s.k.f2, .slice A s.k.f3.length c, .int .i64 s.k.f4, .int .u8 s.v.f0, .int .i64 s.v.f1, .string s.v.f2, .slice B s.v.f3.length d, .int .i64 s.v.f4, .int .i64 s.n] ∧
  s.k.f3.length ≤ c ∧ Kd.R k27 27 w n (fun k => n ≤ k) (.slice A s.k.f3.length c) s.k.f3 ∧ s.v.f3.length ≤ d ∧ Kd.R k27 27 w n (fun k => n ≤ k) (.slice B s.v.f3.length d) s.v.f3
theorem Joined.ex {s : Row} {n : Nat} {v : Value} {w w1 : World} (h : Joined s n v w) (hx : Ex (fun _ => False) w w1) : Joined s n v w1 :=
  let ⟨A, c, B, d, h1, h2, h3, h4, h5⟩ := h; ⟨A, c, B, d, h1, h2, ex_R hx h3 (fun _ _ h => h), h4, ex_R hx h5 (fun _ _ h => h)⟩
theorem Owned.ex {x : S27} {w w1 : World} {v : Value} (h : Owned x w v w1) : Ex (fun _ => False) w w1 := let ⟨_, _, _, _, _, h⟩ := h; h
theorem setBlock_facts {w w1 : World} (hw : w1 = w ∨ w1 = w.drew) {r : Nat} {o : Obj} (hr : w.heap[r]? = some o) (o' : Obj) : Ex (fun b => b = r) w (Go.ChangeMaps.setBlock w1 r o') ∧ (Go.ChangeMaps.setBlock w1 r o').heap[r]? = some o' := by
  rcases hw with rfl | rfl
  · exact ⟨ex_setB (S := fun b => b = r) (Ex.refl _ _) (.inl rfl) o', setB_blk hr⟩
  · exact ⟨ex_setB (S := fun b => b = r) ((Ex.refl _ _).drew) (.inl rfl) o', setB_blk (blk_drew hr)⟩
theorem HLN2 {w w1 : World} {lo hi mb ob c c3 : Nat} {r : Row} (h : Lone w lo hi r) (hx : Ex (fun b => b = mb ∨ b = ob) w w1) (hlt : mb < lo ∧ ob < lo) : Lone w1 lo hi ⟨r.m, r.k, r.v, r.A, r.ca, r.B, r.cb, r.n, c, c3⟩ :=
  let h' := h.ex hx (fun b hb _ hs => by omega); ⟨h'.k, h'.v⟩
theorem posMk_not {a : Mk} {ms : List Mk} (ha : a.keys = true) (hm : ∀ m ∈ ms, m.keys = true) (h : a ∉ ms) : posMk a ms = none := by
  cases hp : posMk a ms with
  | none => rfl
  | some j => exact absurd (List.mem_of_getElem? (posMk_key ha hm hp)) h
theorem copy_add {T : Nat → Prop} {w w1 : World} {g mb ob : Nat} {rows : List Row} {came c c3 : Nat} {es es3 : Array MapEntry} {s : Row} {T0 : Nat → Prop} {w0 : World} {A9 B9 : Option Addr} {c9 d9 n : Nat} {t1 : TypeId} {u1 : Value} (h : Tab w g mb ob T rows came) (hx : Ex (fun b => b = mb ∨ b = ob) w w1)
    (h0 : w.heap[mb]? = some (.map es c)) (e1 : es.toList = rows.map Row.e1)
    (h1 : w1.heap[mb]? = some (.map (es.push { key := .iface t1 u1, val := .agg #[.int .u8 s.k.f0, .int .i64 s.k.f1, .string s.k.f2, .slice A9 s.k.f3.length c9, .int .i64 s.k.f4, .int .u8 s.v.f0, .int .i64 s.v.f1, .string s.v.f2, .slice B9 s.v.f3.length d9, .int .i64 s.v.f4, .int .i64 s.n], born := c }) (c + 1)))
    (e3 : es3.toList = rows.map Row.e2) (h3 : w1.heap[ob]? = some (.map (es3.push { key := .int .i64 s.n, val := .iface t1 u1, born := c3 }) (c3 + 1))) (hu : s.m.val = .iface t1 u1) (hs : s.Good w0 T0)
    (hf : s.k.f3.length ≤ c9 ∧ Kd.F k27 w (fun k => n ≤ k) A9 s.k.f3.length s.k.f3 ∧ s.v.f3.length ≤ d9 ∧ Kd.F k27 w (fun k => n ≤ k) B9 s.v.f3.length s.v.f3) (hn : ∀ b, n ≤ b → T b ∧ b ≠ g ∧ b ≠ mb ∧ b ≠ ob)
    (hm : s.m ∉ rows.map (·.m)) (hnum : 1 ≤ s.n ∧ s.n ≤ came) (hnk : ∀ q ∈ rows, (q.n : Int) ≠ (s.n : Int)) : Tab w1 g mb ob T (rows ++ [⟨s.m, s.k, s.v, A9, c9, B9, d9, s.n, c, c3⟩]) came := by
  refine h.add (c2 := c3 + 1) ⟨s.m, s.k, s.v, A9, c9, B9, d9, s.n, c, c3⟩ hx (fun b hb => hb.elim .inl (fun h => .inr (.inl h))) h0 e1 ?_ rfl e3 ?_ ⟨hs.mark, hs.key, hs.mayk, hs.mayv, hf.1, hf.2.2.1, ?_, ?_⟩ hm hnum (fun q hq e => hnk q hq (by have e2 : q.n = s.n := e; omega))
  · rw [h1]
    simp only [Row.e1, Row.val, hu]
  · rw [h3]
    simp only [Row.e2, hu]
  · exact Kd.F_mono (ex_F hx hf.2.1 (fun b hb hs => hs.elim (hn b hb).2.2.1 (hn b hb).2.2.2)) hn
  · exact Kd.F_mono (ex_F hx hf.2.2.2 (fun b hb hs => hs.elim (hn b hb).2.2.1 (hn b hb).2.2.2)) hn
set_option maxHeartbeats 4000000 in
set_option maxRecDepth 100000 in
theorem copy_calls (g mb ob : Nat) (T : Nat → Prop) (rows : List Row) (came : Nat) (w : World) (h : Tab w g mb ob T rows came) :
    Calls Try.prog 20 #[.pointer (some ⟨g, 0, none⟩)] w fun e w' => ∃ (g2 mb2 ob2 : Nat) (rows2 : List Row), e = .returned (.pointer (some ⟨g2, 0, none⟩)) ∧ Tab w' g2 mb2 ob2 (fun b => w.heap.size ≤ b) rows2 came ∧ (rows2.map Row.core).Perm (rows.map Row.core) ∧ Ex (fun _ => False) w w' ∧ ∃ lo, g2 < lo ∧ mb2 < lo ∧ ob2 < lo ∧ w.heap.size ≤ lo ∧ Spans w' lo rows2 := by
  obtain ⟨es, cl, hmb, hes⟩ := h.hm
  have HT := Aside0.mk h
  have HMB := Aside0.mk hmb
  have HES := Aside0.mk hes
  have hgl := lt_of_blk h.hg
  have hml := lt_of_blk hmb
  clear h hmb hes
  go_enter Try.func20, Try.ntmps20
  go_wp2_with fail
  refine (none_no g mb _ _ _ HT.out.hg).mono ?_
  rintro e wq ⟨rfl, rfl⟩
  go_wp2_with fail
  refine (new_calls _).mono ?_
  rintro e w1 ⟨rfl, rfl⟩
  have HX1 := Aside0.mk ((((Ex.refl (fun _ => False) wq).alloc (.map #[] 0)).alloc (.map #[] 0)).alloc (.cells #[.map (some wq.heap.size), .map (some (wq.heap.size + 1)), .int .i64 0] 66))
  have HT1 := Aside0.mk (tab_new wq)
  have HG1 := Aside0.mk (HX1.out.blk HT.out.hg (fun h => h))
  have HM1 := Aside0.mk (HX1.out.blk HMB.out (fun h => h))
  generalize ((wq.alloc (.map #[] 0)).alloc (.map #[] 0)).alloc (.cells #[.map (some wq.heap.size), .map (some (wq.heap.size + 1)), .int .i64 0] 66) = w1 at HX1 HT1 HG1 HM1 ⊢
  have c0 := (blk_cell HG1.out 0).trans rfl
  have c2 := (blk_cell HG1.out 2).trans rfl
  have cl1 := lt_of_blk HG1.out
  have d2 := (blk_cell HT1.out.hg 2).trans rfl
  have df := blk_frozen HT1.out.hg 2
  have dl := lt_of_blk HT1.out.hg
  go_upto_region 5 with (fail)
  clear c0 c2 cl1 d2 df dl
  obtain ⟨r, hr⟩ : ∃ r, r = w1.heap.size := ⟨_, rfl⟩
  have hap := HT1.out.apart
  have hxc : Ex (fun b => b = wq.heap.size + 2) w1 (w1.setCell ⟨wq.heap.size + 2, 2, none⟩ (.int .i64 came)) := (Ex.refl (fun b => b = wq.heap.size + 2) w1).set (p := ⟨wq.heap.size + 2, 2, none⟩) (.inl rfl) _
  have hsz : (w1.setCell ⟨wq.heap.size + 2, 2, none⟩ (.int .i64 came)).heap.size = r := by rw [hr]; simp
  have hgb := blk_put HT1.out.hg 2 (.int .i64 came) rfl
  have hm2 := hxc.blk HM1.out (by omega)
  have hg2 := hxc.blk HG1.out (by omega)
  have HX2 := Aside0.mk (HX1.out.trans hxc (fun b hb => .inr (by omega)))
  generalize w1.setCell ⟨wq.heap.size + 2, 2, none⟩ (.int .i64 came) = w2 at hxc hsz hgb hm2 hg2 HX2 ⊢
  have hrg := run_range_map w2 63 45 78 mb es cl Try.underlying63 hm2
  have HI3 := Aside0.mk (blk_new1 w2 (.mapIter (some mb) cl #[] cl))
  have HX3 := Aside0.mk (HX2.out.alloc (.mapIter (some mb) cl #[] cl))
  have hrl := lt_of_blk HT1.out.hg
  have HT3 := Aside0.mk (show Tab (w2.alloc (.mapIter (some mb) cl #[] cl)) (wq.heap.size + 2) wq.heap.size (wq.heap.size + 1) (fun b => wq.heap.size ≤ b ∧ b ≠ r) [] came from
    { hg := blk_alloc hgb _
      hm := let ⟨es, c, h1, h2⟩ := HT1.out.hm; ⟨es, c, blk_alloc (hxc.blk h1 (by omega)) _, h2⟩
      ho := let ⟨es, c, h1, h2⟩ := HT1.out.ho; ⟨es, c, blk_alloc (hxc.blk h1 (by omega)) _, h2⟩
      good := by simp
      tg := ⟨by omega, by omega⟩
      tm := ⟨by omega, by omega⟩
      tb := ⟨by omega, by omega⟩
      ne := by omega
      nums := by simp
      marks := .nil
      cames := .nil
      stamps := .nil
      clock := by simp })
  rw [hsz] at hrg HI3
  generalize w2.alloc (.mapIter (some mb) cl #[] cl) = w3 at hrg HI3 HX3 HT3
  have HRQ := Aside0.mk (show wq.heap.size + 2 < r by omega)
  have hgl2 := lt_of_blk hg2
  clear hr hsz
  have c0 := (blk_cell hg2 0).trans rfl
  have cl1 := lt_of_blk hg2
  go_wp2_with fail
  clear c0 cl1 hgl2 hgb hm2 hg2 hrg hxc HX2 HT1 HX1 hap hrl
  go_loopg [4] rows.length (fun k v4 wr => ∃ (seen : Array Nat) (c0 : Nat) (done left rows2 : List Row), Aside0 (wr.heap[r]? = some (.mapIter (some mb) cl seen c0)) ∧ Aside0 (cl ≤ c0) ∧ Aside0 (left.length = k) ∧ Aside0 (Visit rows done left seen) ∧ Aside0 (Tab wr (wq.heap.size + 2) wq.heap.size (wq.heap.size + 1) (fun b => wq.heap.size ≤ b ∧ b ≠ r) rows2 came) ∧ Aside0 (rows2.map Row.core = done.map Row.core) ∧ Aside0 (Ex (fun _ => False) wq wr) ∧ Aside0 (Spans wr (r + 1) rows2))
  case atStart =>
    exact ⟨#[], cl, [], rows, [], HI3, ⟨Nat.le_refl _⟩, ⟨rfl⟩, ⟨Visit.start rows⟩, HT3, ⟨rfl⟩, HX3, ⟨Spans.nil (lt_of_blk HI3.out)⟩⟩
  case round =>
    obtain ⟨seen, c0, done, left, rows2, HI, HC0, HLEN, HV, HTR, HCO, HX, HSP⟩ := hrel
    have hmbr := HX.out.blk HMB.out (fun h => h)
    have hold : ∀ x ∈ es.toList, x.born < cl := by
      rw [HES.out]
      intro x hx
      obtain ⟨s, hs, rfl⟩ := List.mem_map.1 hx
      exact HT.out.clock es cl HMB.out s hs
    rcases run_next_at (P := Try.prog) wr 0 r mb cl c0 seen es cl HI.out hmbr hold HC0.out with ⟨h0, hrun⟩ | ⟨e, he, w1', hw1, hrun⟩
    · have hl := HV.out.stop HES.out h0
      clear hmbr hold h0
      go_wp2_with fail
      go_ret
      refine ⟨_, _, _, rows2, rfl, HTR.out.mono (fun b hb => hb.1), ?_, HX.out, r + 1, by have := HRQ.out; omega, by have := HRQ.out; omega, by have := HRQ.out; omega, by have := HRQ.out; omega, HSP.out⟩
      rw [HCO.out]
      have hp := HV.out.perm
      rw [hl, List.append_nil] at hp
      exact hp.map _
    · obtain ⟨s, left', hs, rfl, hlen, hv, hne⟩ := HV.out.next HES.out HT.out.stamps HT.out.marks HT.out.cames he
      obtain ⟨hxa, hia⟩ := setBlock_facts hw1 HI.out (.mapIter (some mb) cl (seen.push s.e1.born) cl)
      have hga := HTR.out.apart
      have hgl3 := lt_of_blk HTR.out.hg
      have hrl := lt_of_blk HI.out
      have hrq : wq.heap.size + 2 < r := HRQ.out
      generalize Go.ChangeMaps.setBlock w1' r (.mapIter (some mb) cl (seen.push s.e1.born) cl) = wa at hrun hxa hia
      have hmba := hxa.blk hmbr (show ¬ mb = r by omega)
      have hse : s.e1 ∈ es.toList := by rw [HES.out]; exact List.mem_map.2 ⟨s, hs, rfl⟩
      have hnd : (es.toList.map (·.born)).Nodup := by
        rw [HES.out, List.map_map]
        exact List.pairwise_map.2 HT.out.stamps
      have hent := run_entry_at (P := Try.prog) wa r mb cl seen es cl s.e1 hia hmba hse hnd
      obtain ⟨t1, u1, hu1⟩ := s.m.val_iface
      simp only [Row.e1, Row.val, hu1] at hrun hent
      have HU := Aside0.mk hu1
      have HS := Aside0.mk (HT.out.good s hs)
      have HNE := Aside0.mk hne
      have HV2 := Aside0.mk hv
      have HLEN2 := Aside0.mk hlen
      have HSN := Aside0.mk (HT.out.nums s hs)
      have HIA := Aside0.mk hia
      have HXA := Aside0.mk (HX.out.trans hxa (fun b hb => .inr (by omega)))
      have HTA := Aside0.mk (HTR.out.ex hxa (fun b hb hs => hb.2 hs))
      have HNUM := Aside0.mk (And.intro hrq (show r < wa.heap.size from lt_of_blk hia))
      have HSR := Aside0.mk hxa.size
      have HXR := Aside0.mk hxa
      clear hmbr hold he hw1 hia hxa hga hgl3 hrl hmba hse hnd hu1 hs hne hv hlen hrq
      go_upto_region 8 with (fail)
      clear hrun hent
      have HB5 := Aside0.mk (blk_new1 wa (.cells #[.int .u8 s.k.f0, .int .i64 s.k.f1, .string s.k.f2, .slice s.A s.k.f3.length s.ca, .int .i64 s.k.f4, .int .u8 s.v.f0, .int .i64 s.v.f1, .string s.v.f2, .slice s.B s.v.f3.length s.cb, .int .i64 s.v.f4, .int .i64 s.n] 78))
      have HX5 := Aside0.mk (HXA.out.alloc (.cells #[.int .u8 s.k.f0, .int .i64 s.k.f1, .string s.k.f2, .slice s.A s.k.f3.length s.ca, .int .i64 s.k.f4, .int .u8 s.v.f0, .int .i64 s.v.f1, .string s.v.f2, .slice s.B s.v.f3.length s.cb, .int .i64 s.v.f4, .int .i64 s.n] 78))
      have HT5 := Aside0.mk (HTA.out.ex0 ((Ex.refl (fun _ => False) wa).alloc (.cells #[.int .u8 s.k.f0, .int .i64 s.k.f1, .string s.k.f2, .slice s.A s.k.f3.length s.ca, .int .i64 s.k.f4, .int .u8 s.v.f0, .int .i64 s.v.f1, .string s.v.f2, .slice s.B s.v.f3.length s.cb, .int .i64 s.v.f4, .int .i64 s.n] 78)))
      have HI5 := Aside0.mk (blk_alloc HIA.out (.cells #[.int .u8 s.k.f0, .int .i64 s.k.f1, .string s.k.f2, .slice s.A s.k.f3.length s.ca, .int .i64 s.k.f4, .int .u8 s.v.f0, .int .i64 s.v.f1, .string s.v.f2, .slice s.B s.v.f3.length s.cb, .int .i64 s.v.f4, .int .i64 s.n] 78))
      have HXRB := Aside0.mk (HXR.out.alloc (.cells #[.int .u8 s.k.f0, .int .i64 s.k.f1, .string s.k.f2, .slice s.A s.k.f3.length s.ca, .int .i64 s.k.f4, .int .u8 s.v.f0, .int .i64 s.v.f1, .string s.v.f2, .slice s.B s.v.f3.length s.cb, .int .i64 s.v.f4, .int .i64 s.n] 78))
      generalize wa.alloc (.cells #[.int .u8 s.k.f0, .int .i64 s.k.f1, .string s.k.f2, .slice s.A s.k.f3.length s.ca, .int .i64 s.k.f4, .int .u8 s.v.f0, .int .i64 s.v.f1, .string s.v.f2, .slice s.B s.v.f3.length s.cb, .int .i64 s.v.f4, .int .i64 s.n] 78) = wb at HB5 HX5 HT5 HI5 HXRB ⊢
      refine region_by 14 [] (specL [Is (.pointer (some ⟨wq.heap.size + 2, 0, none⟩)), Is (.pointer (some ⟨wq.heap.size + 2, 0, none⟩)), Is (.pointer (some ⟨wq.heap.size + 2, 0, none⟩)), Is (.map (some wq.heap.size)), Is (.iface t1 u1), Is (.pointer (some ⟨wa.heap.size, 0, none⟩)), Is (.agg #[.int .u8 s.k.f0, .int .i64 s.k.f1, .string s.k.f2, .slice s.A s.k.f3.length s.ca, .int .i64 s.k.f4]), Copied s.k wb.heap.size, Is (.pointer (some ⟨wa.heap.size, 5, none⟩)), Is (.agg #[.int .u8 s.v.f0, .int .i64 s.v.f1, .string s.v.f2, .slice s.B s.v.f3.length s.cb, .int .i64 s.v.f4]), Copied s.v wb.heap.size, Is (.pointer (some ⟨wa.heap.size, 10, none⟩)), Is (.int .i64 s.n), Joined s wb.heap.size]) (by decide) (by decide) (by kernel_rfl) (by kernel_rfl) (stab_all (stab_cons (stab_is _) (stab_cons (stab_is _) (stab_cons (stab_is _) (stab_cons (stab_is _) (stab_cons (stab_is _) (stab_cons (stab_is _) (stab_cons (stab_is _) (stab_cons (fun _ _ _ h hx => Copied.ex h hx) (stab_cons (stab_is _) (stab_cons (stab_is _) (stab_cons (fun _ _ _ h hx => Copied.ex h hx) (stab_cons (stab_is _) (stab_cons (stab_is _) (stab_cons (fun _ _ _ h hx => Joined.ex h hx) (stab_nil)))))))))))))))) ?_ ?_ ?_
      · intro i hi hnl
        obtain rfl | rfl | rfl | rfl | rfl | rfl | rfl | rfl | rfl | rfl | rfl | rfl | rfl | rfl : i = 0 ∨ i = 1 ∨ i = 2 ∨ i = 3 ∨ i = 4 ∨ i = 5 ∨ i = 6 ∨ i = 7 ∨ i = 8 ∨ i = 9 ∨ i = 10 ∨ i = 11 ∨ i = 12 ∨ i = 13 := by omega
        · intro o ho ρ yl w1 hx hc hf hgl hp hb
          simp only [List.getElem?_toArray, List.getElem?_cons_succ, List.getElem?_cons_zero, Option.some.injEq] at ho
          subst ho
          have hx := ((Ex.refl (fun _ => False) wb).drew).trans hx (fun _ h => h.elim)
          have b3 := hb 3 (by kernel_rfl)
          clear hp hb
          refine wantL rfl ⟨.pointer (some ⟨wq.heap.size + 2, 0, none⟩), w1, ?_, Ex.refl _ _, rfl⟩
          go_simp
        · intro o ho ρ yl w1 hx hc hf hgl hp hb
          simp only [List.getElem?_toArray, List.getElem?_cons_succ, List.getElem?_cons_zero, Option.some.injEq] at ho
          subst ho
          have hx := ((Ex.refl (fun _ => False) wb).drew).trans hx (fun _ h => h.elim)
          obtain ⟨v0, s0, e0, y0⟩ := hp 0 (by kernel_rfl)
          have e0 := e0 26 rfl
          obtain rfl : v0 = (.pointer (some ⟨wq.heap.size + 2, 0, none⟩)) := s0
          clear y0
          clear hp hb
          have hg3 := hx.blk HT5.out.hg (fun h => h)
          have h0 := (blk_cell hg3 0).trans rfl
          have hgl := lt_of_blk hg3
          refine wantL rfl ⟨.pointer (some ⟨wq.heap.size + 2, 0, none⟩), w1, ?_, Ex.refl _ _, rfl⟩
          go_simp
        · intro o ho ρ yl w1 hx hc hf hgl hp hb
          simp only [List.getElem?_toArray, List.getElem?_cons_succ, List.getElem?_cons_zero, Option.some.injEq] at ho
          subst ho
          have hx := ((Ex.refl (fun _ => False) wb).drew).trans hx (fun _ h => h.elim)
          obtain ⟨v1, s1, e1, y1⟩ := hp 1 (by kernel_rfl)
          have e1 := e1 27 rfl
          obtain rfl : v1 = (.pointer (some ⟨wq.heap.size + 2, 0, none⟩)) := s1
          clear y1
          clear hp hb
          have hg3 := hx.blk HT5.out.hg (fun h => h)
          have h0 := (blk_cell hg3 0).trans rfl
          have hgl := lt_of_blk hg3
          refine wantL rfl ⟨.pointer (some ⟨wq.heap.size + 2, 0, none⟩), w1, ?_, Ex.refl _ _, rfl⟩
          go_simp
        · intro o ho ρ yl w1 hx hc hf hgl hp hb
          simp only [List.getElem?_toArray, List.getElem?_cons_succ, List.getElem?_cons_zero, Option.some.injEq] at ho
          subst ho
          have hx := ((Ex.refl (fun _ => False) wb).drew).trans hx (fun _ h => h.elim)
          obtain ⟨v2, s2, e2, y2⟩ := hp 2 (by kernel_rfl)
          have e2 := e2 28 rfl
          obtain rfl : v2 = (.pointer (some ⟨wq.heap.size + 2, 0, none⟩)) := s2
          clear y2
          clear hp hb
          have hg3 := hx.blk HT5.out.hg (fun h => h)
          have h0 := (blk_cell hg3 0).trans rfl
          have hgl := lt_of_blk hg3
          refine wantL rfl ⟨.map (some wq.heap.size), w1, ?_, Ex.refl _ _, rfl⟩
          go_simp
        · intro o ho ρ yl w1 hx hc hf hgl hp hb
          simp only [List.getElem?_toArray, List.getElem?_cons_succ, List.getElem?_cons_zero, Option.some.injEq] at ho
          subst ho
          have hx := ((Ex.refl (fun _ => False) wb).drew).trans hx (fun _ h => h.elim)
          have b4 := hb 4 (by kernel_rfl)
          clear hp hb
          refine wantL rfl ⟨.iface t1 u1, w1, ?_, Ex.refl _ _, rfl⟩
          go_simp
        · intro o ho ρ yl w1 hx hc hf hgl hp hb
          simp only [List.getElem?_toArray, List.getElem?_cons_succ, List.getElem?_cons_zero, Option.some.injEq] at ho
          subst ho
          have hx := ((Ex.refl (fun _ => False) wb).drew).trans hx (fun _ h => h.elim)
          have b5 := hb 5 (by kernel_rfl)
          clear hp hb
          have hb5 := hx.blk HB5.out (fun h => h)
          have h0 := (blk_cell hb5 0).trans rfl
          have h1 := (blk_cell hb5 1).trans rfl
          have h2 := (blk_cell hb5 2).trans rfl
          have h3 := (blk_cell hb5 3).trans rfl
          have h4 := (blk_cell hb5 4).trans rfl
          have h5 := (blk_cell hb5 5).trans rfl
          have h6 := (blk_cell hb5 6).trans rfl
          have h7 := (blk_cell hb5 7).trans rfl
          have h8 := (blk_cell hb5 8).trans rfl
          have h9 := (blk_cell hb5 9).trans rfl
          have h10 := (blk_cell hb5 10).trans rfl
          have hbl := lt_of_blk hb5
          refine wantL rfl ⟨.pointer (some ⟨wa.heap.size, 0, none⟩), w1, ?_, Ex.refl _ _, rfl⟩
          go_simp
        · intro o ho ρ yl w1 hx hc hf hgl hp hb
          simp only [List.getElem?_toArray, List.getElem?_cons_succ, List.getElem?_cons_zero, Option.some.injEq] at ho
          subst ho
          have hx := ((Ex.refl (fun _ => False) wb).drew).trans hx (fun _ h => h.elim)
          obtain ⟨v5, s5, e5, y5⟩ := hp 5 (by kernel_rfl)
          have e5 := e5 31 rfl
          obtain rfl : v5 = (.pointer (some ⟨wa.heap.size, 0, none⟩)) := s5
          clear y5
          clear hp hb
          have hb5 := hx.blk HB5.out (fun h => h)
          have h0 := (blk_cell hb5 0).trans rfl
          have h1 := (blk_cell hb5 1).trans rfl
          have h2 := (blk_cell hb5 2).trans rfl
          have h3 := (blk_cell hb5 3).trans rfl
          have h4 := (blk_cell hb5 4).trans rfl
          have h5 := (blk_cell hb5 5).trans rfl
          have h6 := (blk_cell hb5 6).trans rfl
          have h7 := (blk_cell hb5 7).trans rfl
          have h8 := (blk_cell hb5 8).trans rfl
          have h9 := (blk_cell hb5 9).trans rfl
          have h10 := (blk_cell hb5 10).trans rfl
          have hbl := lt_of_blk hb5
          refine wantL rfl ⟨.agg #[.int .u8 s.k.f0, .int .i64 s.k.f1, .string s.k.f2, .slice s.A s.k.f3.length s.ca, .int .i64 s.k.f4], w1, ?_, Ex.refl _ _, rfl⟩
          go_simp
        · intro o ho ρ yl w1 hx hc hf hgl hp hb
          simp only [List.getElem?_toArray, List.getElem?_cons_succ, List.getElem?_cons_zero, Option.some.injEq] at ho
          subst ho
          have hx := ((Ex.refl (fun _ => False) wb).drew).trans hx (fun _ h => h.elim)
          obtain ⟨v6, s6, e6, y6⟩ := hp 6 (by kernel_rfl)
          have e6 := e6 32 rfl
          obtain rfl : v6 = (.agg #[.int .u8 s.k.f0, .int .i64 s.k.f1, .string s.k.f2, .slice s.A s.k.f3.length s.ca, .int .i64 s.k.f4]) := s6
          clear y6
          clear hp hb
          refine wantR rfl ⟨40, #[.agg #[.int .u8 s.k.f0, .int .i64 s.k.f1, .string s.k.f2, .slice s.A s.k.f3.length s.ca, .int .i64 s.k.f4]], exec_call' Try.func40 (by kernel_rfl) rfl _ rfl (by simp [e6]) (hf 40), ?_⟩
          refine (own_calls s.k s.A s.ca _ _ HS.out.lk (ex_F (HX5.out.trans hx (fun _ h => h.elim)) HS.out.fk (fun _ _ h => h)) HS.out.mayk).mono ?_
          rintro e' wq' ⟨v', rfl, hv'⟩
          exact ⟨_, rfl, hv'.ex, Copied.of hv' hx.size⟩
        · intro o ho ρ yl w1 hx hc hf hgl hp hb
          simp only [List.getElem?_toArray, List.getElem?_cons_succ, List.getElem?_cons_zero, Option.some.injEq] at ho
          subst ho
          have hx := ((Ex.refl (fun _ => False) wb).drew).trans hx (fun _ h => h.elim)
          have b5 := hb 5 (by kernel_rfl)
          clear hp hb
          have hb5 := hx.blk HB5.out (fun h => h)
          have h0 := (blk_cell hb5 0).trans rfl
          have h1 := (blk_cell hb5 1).trans rfl
          have h2 := (blk_cell hb5 2).trans rfl
          have h3 := (blk_cell hb5 3).trans rfl
          have h4 := (blk_cell hb5 4).trans rfl
          have h5 := (blk_cell hb5 5).trans rfl
          have h6 := (blk_cell hb5 6).trans rfl
          have h7 := (blk_cell hb5 7).trans rfl
          have h8 := (blk_cell hb5 8).trans rfl
          have h9 := (blk_cell hb5 9).trans rfl
          have h10 := (blk_cell hb5 10).trans rfl
          have hbl := lt_of_blk hb5
          refine wantL rfl ⟨.pointer (some ⟨wa.heap.size, 5, none⟩), w1, ?_, Ex.refl _ _, rfl⟩
          go_simp
        · intro o ho ρ yl w1 hx hc hf hgl hp hb
          simp only [List.getElem?_toArray, List.getElem?_cons_succ, List.getElem?_cons_zero, Option.some.injEq] at ho
          subst ho
          have hx := ((Ex.refl (fun _ => False) wb).drew).trans hx (fun _ h => h.elim)
          obtain ⟨v8, s8, e8, y8⟩ := hp 8 (by kernel_rfl)
          have e8 := e8 34 rfl
          obtain rfl : v8 = (.pointer (some ⟨wa.heap.size, 5, none⟩)) := s8
          clear y8
          clear hp hb
          have hb5 := hx.blk HB5.out (fun h => h)
          have h0 := (blk_cell hb5 0).trans rfl
          have h1 := (blk_cell hb5 1).trans rfl
          have h2 := (blk_cell hb5 2).trans rfl
          have h3 := (blk_cell hb5 3).trans rfl
          have h4 := (blk_cell hb5 4).trans rfl
          have h5 := (blk_cell hb5 5).trans rfl
          have h6 := (blk_cell hb5 6).trans rfl
          have h7 := (blk_cell hb5 7).trans rfl
          have h8 := (blk_cell hb5 8).trans rfl
          have h9 := (blk_cell hb5 9).trans rfl
          have h10 := (blk_cell hb5 10).trans rfl
          have hbl := lt_of_blk hb5
          refine wantL rfl ⟨.agg #[.int .u8 s.v.f0, .int .i64 s.v.f1, .string s.v.f2, .slice s.B s.v.f3.length s.cb, .int .i64 s.v.f4], w1, ?_, Ex.refl _ _, rfl⟩
          go_simp
        · intro o ho ρ yl w1 hx hc hf hgl hp hb
          simp only [List.getElem?_toArray, List.getElem?_cons_succ, List.getElem?_cons_zero, Option.some.injEq] at ho
          subst ho
          have hx := ((Ex.refl (fun _ => False) wb).drew).trans hx (fun _ h => h.elim)
          obtain ⟨v9, s9, e9, y9⟩ := hp 9 (by kernel_rfl)
          have e9 := e9 35 rfl
          obtain rfl : v9 = (.agg #[.int .u8 s.v.f0, .int .i64 s.v.f1, .string s.v.f2, .slice s.B s.v.f3.length s.cb, .int .i64 s.v.f4]) := s9
          clear y9
          obtain ⟨v7, s7, e7, y7⟩ := hp 7 (by kernel_rfl)
          have e7 := e7 33 rfl
          have s7 : (Copied s.k wb.heap.size) v7 w1 := s7
          clear y7
          clear hp hb
          refine wantR rfl ⟨40, #[.agg #[.int .u8 s.v.f0, .int .i64 s.v.f1, .string s.v.f2, .slice s.B s.v.f3.length s.cb, .int .i64 s.v.f4]], exec_call' Try.func40 (by kernel_rfl) rfl _ rfl (by simp [e9]) (hf 40), ?_⟩
          refine (own_calls s.v s.B s.cb _ _ HS.out.lv (ex_F (HX5.out.trans hx (fun _ h => h.elim)) HS.out.fv (fun _ _ h => h)) HS.out.mayv).mono ?_
          rintro e' wq' ⟨v', rfl, hv'⟩
          exact ⟨_, rfl, hv'.ex, Copied.of hv' hx.size⟩
        · intro o ho ρ yl w1 hx hc hf hgl hp hb
          simp only [List.getElem?_toArray, List.getElem?_cons_succ, List.getElem?_cons_zero, Option.some.injEq] at ho
          subst ho
          have hx := ((Ex.refl (fun _ => False) wb).drew).trans hx (fun _ h => h.elim)
          have b5 := hb 5 (by kernel_rfl)
          clear hp hb
          have hb5 := hx.blk HB5.out (fun h => h)
          have h0 := (blk_cell hb5 0).trans rfl
          have h1 := (blk_cell hb5 1).trans rfl
          have h2 := (blk_cell hb5 2).trans rfl
          have h3 := (blk_cell hb5 3).trans rfl
          have h4 := (blk_cell hb5 4).trans rfl
          have h5 := (blk_cell hb5 5).trans rfl
          have h6 := (blk_cell hb5 6).trans rfl
          have h7 := (blk_cell hb5 7).trans rfl
          have h8 := (blk_cell hb5 8).trans rfl
          have h9 := (blk_cell hb5 9).trans rfl
          have h10 := (blk_cell hb5 10).trans rfl
          have hbl := lt_of_blk hb5
          refine wantL rfl ⟨.pointer (some ⟨wa.heap.size, 10, none⟩), w1, ?_, Ex.refl _ _, rfl⟩
          go_simp
        · intro o ho ρ yl w1 hx hc hf hgl hp hb
          simp only [List.getElem?_toArray, List.getElem?_cons_succ, List.getElem?_cons_zero, Option.some.injEq] at ho
          subst ho
          have hx := ((Ex.refl (fun _ => False) wb).drew).trans hx (fun _ h => h.elim)
          obtain ⟨v11, s11, e11, y11⟩ := hp 11 (by kernel_rfl)
          have e11 := e11 37 rfl
          obtain rfl : v11 = (.pointer (some ⟨wa.heap.size, 10, none⟩)) := s11
          clear y11
          clear hp hb
          have hb5 := hx.blk HB5.out (fun h => h)
          have h0 := (blk_cell hb5 0).trans rfl
          have h1 := (blk_cell hb5 1).trans rfl
          have h2 := (blk_cell hb5 2).trans rfl
          have h3 := (blk_cell hb5 3).trans rfl
          have h4 := (blk_cell hb5 4).trans rfl
          have h5 := (blk_cell hb5 5).trans rfl
          have h6 := (blk_cell hb5 6).trans rfl
          have h7 := (blk_cell hb5 7).trans rfl
          have h8 := (blk_cell hb5 8).trans rfl
          have h9 := (blk_cell hb5 9).trans rfl
          have h10 := (blk_cell hb5 10).trans rfl
          have hbl := lt_of_blk hb5
          refine wantL rfl ⟨.int .i64 s.n, w1, ?_, Ex.refl _ _, rfl⟩
          go_simp
        · intro o ho ρ yl w1 hx hc hf hgl hp hb
          simp only [List.getElem?_toArray, List.getElem?_cons_succ, List.getElem?_cons_zero, Option.some.injEq] at ho
          subst ho
          have hx := ((Ex.refl (fun _ => False) wb).drew).trans hx (fun _ h => h.elim)
          obtain ⟨v7, s7, e7, y7⟩ := hp 7 (by kernel_rfl)
          have e7 := e7 33 rfl
          have s7 : (Copied s.k wb.heap.size) v7 w1 := s7
          clear y7
          obtain ⟨v10, s10, e10, y10⟩ := hp 10 (by kernel_rfl)
          have e10 := e10 36 rfl
          have s10 : (Copied s.v wb.heap.size) v10 w1 := s10
          clear y10
          obtain ⟨v12, s12, e12, y12⟩ := hp 12 (by kernel_rfl)
          have e12 := e12 38 rfl
          obtain rfl : v12 = (.int .i64 s.n) := s12
          clear y12
          clear hp hb
          obtain ⟨A9, c9, q1, j1, j2⟩ := s7
          obtain ⟨B9, d9, q2, j3, j4⟩ := s10
          subst q1 q2
          refine wantL rfl ⟨.agg #[.int .u8 s.k.f0, .int .i64 s.k.f1, .string s.k.f2, .slice A9 s.k.f3.length c9, .int .i64 s.k.f4, .int .u8 s.v.f0, .int .i64 s.v.f1, .string s.v.f2, .slice B9 s.v.f3.length d9, .int .i64 s.v.f4, .int .i64 s.n], w1, ?_, Ex.refl _ _, ⟨A9, c9, B9, d9, rfl, j1, j2, j3, j4⟩⟩
          go_simp
      · intro i hil
        exact absurd hil (by simp)
      · intro xs w1 hx hs KQ hKK
        have s0 : xs 0 = (.pointer (some ⟨wq.heap.size + 2, 0, none⟩)) := hs 0 (by omega)
        have s1 : xs 1 = (.pointer (some ⟨wq.heap.size + 2, 0, none⟩)) := hs 1 (by omega)
        have s2 : xs 2 = (.pointer (some ⟨wq.heap.size + 2, 0, none⟩)) := hs 2 (by omega)
        have s3 : xs 3 = (.map (some wq.heap.size)) := hs 3 (by omega)
        have s4 : xs 4 = (.iface t1 u1) := hs 4 (by omega)
        have s5 : xs 5 = (.pointer (some ⟨wa.heap.size, 0, none⟩)) := hs 5 (by omega)
        have s6 : xs 6 = (.agg #[.int .u8 s.k.f0, .int .i64 s.k.f1, .string s.k.f2, .slice s.A s.k.f3.length s.ca, .int .i64 s.k.f4]) := hs 6 (by omega)
        have s7 : (Copied s.k wb.heap.size) (xs 7) w1 := hs 7 (by omega)
        have s8 : xs 8 = (.pointer (some ⟨wa.heap.size, 5, none⟩)) := hs 8 (by omega)
        have s9 : xs 9 = (.agg #[.int .u8 s.v.f0, .int .i64 s.v.f1, .string s.v.f2, .slice s.B s.v.f3.length s.cb, .int .i64 s.v.f4]) := hs 9 (by omega)
        have s10 : (Copied s.v wb.heap.size) (xs 10) w1 := hs 10 (by omega)
        have s11 : xs 11 = (.pointer (some ⟨wa.heap.size, 10, none⟩)) := hs 11 (by omega)
        have s12 : xs 12 = (.int .i64 s.n) := hs 12 (by omega)
        have s13 : (Joined s wb.heap.size) (xs 13) w1 := hs 13 (by omega)
        clear hs
        simp only [putSlots, dstOf, List.getElem?_toArray, List.getElem?_cons_succ, List.getElem?_cons_zero, Option.bind_some, List.setIfInBounds_toArray, List.set_cons_zero, List.set_cons_succ, List.drop_succ_cons, List.drop_zero]
        rw [s0, s1, s2, s3, s4, s5, s6, s8, s9, s11, s12]
        clear s0 s1 s2 s3 s4 s5 s6 s8 s9 s11 s12
        obtain ⟨A9, c9, B9, d9, hj, hl1, hf1, hl2, hf2⟩ := s13
        rw [hj]
        have HT6 := Aside0.mk (HT5.out.ex0 hx)
        have HX6 := Aside0.mk (HX5.out.trans hx (fun _ h => h.elim))
        have HI6 := Aside0.mk (hx.blk HI5.out (fun h => h))
        have HB6 := Aside0.mk (hx.blk HB5.out (fun h => h))
        have HF9 := Aside0.mk (And.intro hl1 (And.intro (R_F hf1) (And.intro hl2 (R_F hf2))))
        have HLN := Aside0.mk (show Lone w1 wb.heap.size w1.heap.size ⟨s.m, s.k, s.v, A9, c9, B9, d9, s.n, 0, 0⟩ from ⟨Kd.R_mono (Kd.R_bound hf1) (fun k hk => ⟨hk.1, hk.2.2.1⟩), Kd.R_mono (Kd.R_bound hf2) (fun k hk => ⟨hk.1, hk.2.2.1⟩)⟩)
        have HSZ := Aside0.mk (show wa.heap.size < wb.heap.size from lt_of_blk HB5.out)
        have HWB := Aside0.mk (And.intro (show wr.heap.size ≤ wb.heap.size by have := HSR.out; have := HSZ.out; omega) hx.size)
        have HXR1 := Aside0.mk (HXRB.out.trans hx (fun _ h => h.elim))
        obtain ⟨es2, cl2, hm2, hes2⟩ := HT6.out.hm
        obtain ⟨es3, cl3, ho3, hes3⟩ := HT6.out.ho
        have hmm : rows2.map (·.m) = done.map (·.m) := by have := congrArg (fun l => l.map (fun c => c.1)) HCO.out; rw [List.map_map, List.map_map] at this; exact this
        have hnn : rows2.map (·.n) = done.map (·.n) := by have := congrArg (fun l => l.map (fun c => c.2.2.2)) HCO.out; rw [List.map_map, List.map_map] at this; exact this
        have hnm : s.m ∉ rows2.map (·.m) := by rw [hmm]; intro h; obtain ⟨q, hq, e⟩ := List.mem_map.1 h; exact (HNE.out q hq).1 e
        have hnk : ∀ q ∈ rows2, (q.n : Int) ≠ (s.n : Int) := by intro q hq e; have h : s.n ∈ done.map (·.n) := by { rw [← hnn]; exact List.mem_map.2 ⟨q, hq, by omega⟩ }; obtain ⟨q2, hq2, e2⟩ := List.mem_map.1 h; exact (HNE.out q2 hq2).2 e2
        have hmu := run_new hm2 HS.out.key HT6.out.key_all (HT6.out.keys_map hes2) (posMk_not HS.out.key.1 (fun m h => (HT6.out.key_all m h).1) hnm) (.agg #[.int .u8 s.k.f0, .int .i64 s.k.f1, .string s.k.f2, .slice A9 s.k.f3.length c9, .int .i64 s.k.f4, .int .u8 s.v.f0, .int .i64 s.v.f1, .string s.v.f2, .slice B9 s.v.f3.length d9, .int .i64 s.v.f4, .int .i64 s.n])
        rw [HU.out] at hmu
        have hap := HT6.out.apart
        have hn3 := HT6.out.ne
        have HX7 := Aside0.mk (ex_setB (Ex.refl (fun b => b = wq.heap.size ∨ b = wq.heap.size + 1) w1) (.inl (.inl rfl)) (.map (es2.push { key := .iface t1 u1, val := .agg #[.int .u8 s.k.f0, .int .i64 s.k.f1, .string s.k.f2, .slice A9 s.k.f3.length c9, .int .i64 s.k.f4, .int .u8 s.v.f0, .int .i64 s.v.f1, .string s.v.f2, .slice B9 s.v.f3.length d9, .int .i64 s.v.f4, .int .i64 s.n], born := cl2 }) (cl2 + 1)))
        have HM7 := Aside0.mk (setB_blk (o' := (.map (es2.push { key := .iface t1 u1, val := .agg #[.int .u8 s.k.f0, .int .i64 s.k.f1, .string s.k.f2, .slice A9 s.k.f3.length c9, .int .i64 s.k.f4, .int .u8 s.v.f0, .int .i64 s.v.f1, .string s.v.f2, .slice B9 s.v.f3.length d9, .int .i64 s.v.f4, .int .i64 s.n], born := cl2 }) (cl2 + 1))) hm2)
        have HO7 := Aside0.mk (show (setB w1 wq.heap.size (.map (es2.push { key := .iface t1 u1, val := .agg #[.int .u8 s.k.f0, .int .i64 s.k.f1, .string s.k.f2, .slice A9 s.k.f3.length c9, .int .i64 s.k.f4, .int .u8 s.v.f0, .int .i64 s.v.f1, .string s.v.f2, .slice B9 s.v.f3.length d9, .int .i64 s.v.f4, .int .i64 s.n], born := cl2 }) (cl2 + 1))).heap[wq.heap.size + 1]? = some (.map es3 cl3) from by rw [setB_ne _ _ _ (by omega)]; exact ho3)
        have HG7 := Aside0.mk (HX7.out.blk HT6.out.hg (by omega))
        have HB7 := Aside0.mk (HX7.out.blk HB6.out (by have := HRQ.out; have := HNUM.out; omega))
        generalize setB w1 wq.heap.size (.map (es2.push { key := .iface t1 u1, val := .agg #[.int .u8 s.k.f0, .int .i64 s.k.f1, .string s.k.f2, .slice A9 s.k.f3.length c9, .int .i64 s.k.f4, .int .u8 s.v.f0, .int .i64 s.v.f1, .string s.v.f2, .slice B9 s.v.f3.length d9, .int .i64 s.v.f4, .int .i64 s.n], born := cl2 }) (cl2 + 1)) = w7 at hmu HX7 HM7 HO7 HG7 HB7
        have hmo := run_ord (blk_drew HO7.out) hes3 s.n hnk (.iface t1 u1)
        have HX8 := Aside0.mk (ex_setB (HX7.out.drew) (.inl (.inr rfl)) (.map (es3.push { key := .int .i64 s.n, val := .iface t1 u1, born := cl3 }) (cl3 + 1)))
        have HO8 := Aside0.mk (setB_blk (o' := (.map (es3.push { key := .int .i64 s.n, val := .iface t1 u1, born := cl3 }) (cl3 + 1))) (blk_drew HO7.out))
        have HM8 := Aside0.mk (show (setB w7.drew (wq.heap.size + 1) (.map (es3.push { key := .int .i64 s.n, val := .iface t1 u1, born := cl3 }) (cl3 + 1))).heap[wq.heap.size]? = some (.map (es2.push { key := .iface t1 u1, val := .agg #[.int .u8 s.k.f0, .int .i64 s.k.f1, .string s.k.f2, .slice A9 s.k.f3.length c9, .int .i64 s.k.f4, .int .u8 s.v.f0, .int .i64 s.v.f1, .string s.v.f2, .slice B9 s.v.f3.length d9, .int .i64 s.v.f4, .int .i64 s.n], born := cl2 }) (cl2 + 1)) from by rw [setB_ne _ _ _ (by omega)]; exact blk_drew HM7.out)
        generalize setB w7.drew (wq.heap.size + 1) (.map (es3.push { key := .int .i64 s.n, val := .iface t1 u1, born := cl3 }) (cl3 + 1)) = w8 at hmo HX8 HO8 HM8
        have g1 := (blk_cell HG7.out 1).trans rfl
        have gl := lt_of_blk HG7.out
        have ee := (blk_cell HB7.out 10).trans rfl
        have el := lt_of_blk HB7.out
        have HM2 := Aside0.mk (And.intro hm2 (And.intro hes2 (And.intro hes3 (And.intro hnm hnk))))
        clear hx hm2 hes2 hes3 ho3 hmm hnn hnm hnk hap hn3 hl1 hf1 hl2 hf2
        go_wp2_with fail
        go_region
        all_goals clear hmu hmo g1 gl ee el
        all_goals go_wp2_with fail
        all_goals go_roundg (gk - 1)
        case measure => have := HLEN.out; have := HLEN2.out; omega
        case rel => exact ⟨_, cl, done ++ [s], left', rows2 ++ [⟨s.m, s.k, s.v, A9, c9, B9, d9, s.n, cl2, cl3⟩], ⟨HX8.out.blk HI6.out (by have := HRQ.out; have := HNUM.out; omega)⟩, ⟨Nat.le_refl _⟩, ⟨by have := HLEN.out; have := HLEN2.out; omega⟩, HV2, ⟨copy_add HT6.out HX8.out HM2.out.1 HM2.out.2.1 HM8.out HM2.out.2.2.1 HO8.out HU.out HS.out HF9.out (fun b hb => by have := HRQ.out; have := HNUM.out; have := HSZ.out; omega) HM2.out.2.2.2.1 HSN.out HM2.out.2.2.2.2⟩, ⟨by rw [List.map_append, List.map_append, HCO.out]; rfl⟩, ⟨HX6.out.trans HX8.out (fun b hb => .inr (by omega))⟩, ⟨HSP.out.snoc (S := fun b => b < r + 1) ((HXR1.out.mono (fun b hb => (by omega : b < r + 1))).trans HX8.out (fun b hb => .inl (by have := HRQ.out; omega))) (fun _ h => h) HWB.out.1 HX8.out.size HWB.out.2 (HLN2 HLN.out HX8.out (by have := HRQ.out; have := HNUM.out; have := HSZ.out; omega))⟩⟩
end Go.Proofs.Ythkemcekcfccpaa.PBrandCompares
end
section
namespace Go.Proofs.Ythkemcekcfccpaa.GBrandCompares
open Go.RowKit
set_option linter.unusedVariables false
section
variable {P : Program}
structure Rec where
  fn : FuncId
  tmps : Array Value
  ps : Array Tmp
  assign : Code
  body : Code
  D : Nat
def Rec.at (r : Rec) (st : LoopState) (pe : Option Code) : Loop := { state := st, pending := pe, fn := r.fn, tmps := r.tmps, params := r.ps, assign := r.assign, body := r.body, defers := r.D }
def roundEnd (r : Rec) (l : Nat) (R : Ending → World → Prop) : Exit → Act → World → Prop
  | .normal, _, W => W.heap[l]? = some (.loop (r.at .busy none)) ∧ R (.returned (.bool true)) (W.putObj l (.loop (r.at .ready none)))
  | .ret, _, W => W.heap[l]? = some (.loop (r.at .busy none)) ∧ R (.returned (.bool false)) (W.putObj l (.loop (r.at .done (some .ret))))
  | .exit id, _, W => W.heap[l]? = some (.loop (r.at .busy none)) ∧ R (.returned (.bool false)) (W.putObj l (.loop (r.at .done (some (.exit id)))))
  | _, _, _ => False
theorem yield_at {r : Rec} {l n : Nat} {args : Array Value} {W : World} {R : Ending → World → Prop} (h : W.heap[l]? = some (.loop (r.at .ready none))) (hs : args.size = r.ps.size)
    (hround : r.assign.wpIn (Fence.wide.inRound l) n P (Exit.then (fun a1 W1 => W1.heap[l]? = some (.loop (r.at .ready none)) ∧ r.body.wpIn (Fence.wide.inRound l) n P (roundEnd r l R) a1 (W1.putObj l (.loop (r.at .busy none)))) (fun _ _ _ => False))
      { tmps := (r.ps.zip args).foldl (fun t (p, v) => t.setIfInBounds p v) r.tmps, defers := [] } W) : YieldAt Fence.wide n P l args W R := by
  refine ⟨r.fn, _, r.assign, r.body, run_yield h hs, roundIn_of_wpIn trivial (wpIn_mono hround ?_)⟩
  intro e a1 W1 he
  cases e with
  | normal =>
    obtain ⟨h1, hb⟩ := he
    refine ⟨_, run_beginRound h1 rfl, wpIn_mono hb ?_⟩
    intro e a2 W2 h2
    cases e with
    | normal => exact ⟨_, _, run_endRound none h2.1, h2.2⟩
    | ret => exact ⟨_, _, run_endRound (some .ret) h2.1, h2.2⟩
    | exit id => exact ⟨_, _, run_endRound (some (.exit id)) h2.1, h2.2⟩
    | goto t => exact h2.elim
    | panic c => exact h2.elim
    | outgrown => exact h2.elim
  | _ => exact he.elim
theorem wp_range {g : Operand} {ps : Array Tmp} {assign body : Code} {Q : Exit → Act → World → Prop} {a : Act} {w : World} {gf : Nat} {lb : Array Value}
    (hg : a.eval g = .func (.func gf) #[] lb) (eg : ∀ args w, (callFunc gf args).run P w = .ok (.enter gf args) w)
    (hcall : ∀ (r : Rec), r.tmps = a.tmps → r.ps = ps → r.assign = assign → r.body = body → r.D = w.heap.size →
      Calls P gf (#[.func (.yield (w.heap.size + 1)) #[] #[]] ++ lb) ((w.alloc (.deferred (some []))).alloc (.loop (r.at .ready none))) fun e W' => (∃ v, e = .returned v) ∧
        ((W'.heap[w.heap.size + 1]? = some (.loop (r.at .ready none)) ∧ Q .normal { a with defers := { target := .collected w.heap.size, args := #[] } :: a.defers } (W'.putObj (w.heap.size + 1) (.loop (r.at .exhausted none)))) ∨
         ∃ c, W'.heap[w.heap.size + 1]? = some (.loop (r.at .done (some c))) ∧ c.wp P Q { a with defers := { target := .collected w.heap.size, args := #[] } :: a.defers } (W'.putObj (w.heap.size + 1) (.loop (r.at .exhausted (some c)))))) :
    (Code.rangeFunc g ps assign body).wp P Q a w := by
  refine (wpIn_wide (n := 1)).1 (wpIn_rangeFunc ?_)
  intro fn _
  have hc := hcall ⟨fn, a.tmps, ps, assign, body, w.heap.size⟩ rfl rfl rfl rfl rfl
  refine ⟨w.heap.size + 1, [{ target := .collected w.heap.size, args := #[] }], (w.alloc (.deferred (some []))).alloc (.loop (Rec.at ⟨fn, a.tmps, ps, assign, body, w.heap.size⟩ .ready none)), { target := .fn (.func gf) lb, args := #[.func (.yield (w.heap.size + 1)) #[] #[]] }, (w.alloc (.deferred (some []))).alloc (.loop (Rec.at ⟨fn, a.tmps, ps, assign, body, w.heap.size⟩ .ready none)), gf,
    #[.func (.yield (w.heap.size + 1)) #[] #[]] ++ lb, (w.alloc (.deferred (some []))).alloc (.loop (Rec.at ⟨fn, a.tmps, ps, assign, body, w.heap.size⟩ .ready none)), run_enterLoop_outer _ _ _ _ _, ?_, ?_, ?_, fun _ => Nat.le_refl _, ?_⟩
  · simp only [resolve, hg]
    simp [go_sem]
  · intro f' _; exact trivial
  · simp [invoke, go_sem, eg]
  · refine callsIn_wide.2 (hc.mono ?_)
    rintro e W' ⟨⟨v, rfl⟩, ⟨h1, h2⟩ | ⟨c, h1, h2⟩⟩
    · exact ⟨none, _, run_endLoop h1 (by simp [Rec.at]), h2⟩
    · exact ⟨some c, _, run_endLoop h1 (by simp [Rec.at]), wpIn_wide.2 h2⟩
theorem op_in {Q : Exit → Act → World → Prop} {l n : Nat} {o : Oper} (hd : ∀ c, o.op ≠ .defer c) {K : Act → World → Prop} {a : Act} {w : World} (h : o.wp P a w K Q) : o.wpIn (Fence.wide.inRound l) n P a w K Q := by
  refine ⟨fun _ _ => trivial, ?_⟩
  rw [show (Fence.wide.inRound l).round = some l from rfl, Oper.semAt_some l _ _ hd]
  unfold Oper.wp at h
  generalize (execOp a.eval o).run P w = r at h ⊢
  cases r with
  | ok x w' =>
    cases x with
    | value v => exact h
    | skip => exact h
    | defer d => exact h
    | enter f args => exact ⟨fun h => (by cases h), CallsIn.inRound l (callsIn_wide.2 h)⟩
    | row row args => exact ⟨fun h => (by cases h), fun c cs _ => let ⟨v, w', r, s⟩ := h c cs; ⟨v, w', r, stepsIn_wide.2 s⟩⟩
    | _ => exact h.elim
  | halt x w' => cases x <;> exact h
theorem any_in {ops : Array Oper} {Q : Exit → Act → World → Prop} {l0 n : Nat} (hQ : ¬ LetsOut Q) (hd : ∀ (i : Nat) (o : Oper), ops[i]? = some o → ∀ c, o.op ≠ .defer c) : ∀ (r : Nat) (l : Array Bool) (a : Act) (w : World), wpAny P .any ops Q r l a w → wpAnyIn (Fence.wide.inRound l0) n P .any ops Q r l a w := by
  intro r
  induction r with
  | zero => exact fun l a w h => h
  | succ r ih =>
    rintro l a w ⟨h1, h2⟩
    refine ⟨h1, fun i hi => ?_⟩
    have h := h2 i hi
    refine wpOpIn_mono (fun a w => ih _ a w) ?_
    unfold wpOp at h
    unfold wpOpIn
    split
    · rename_i e
      rw [e] at h
      exact h
    · rename_i o e
      rw [e] at h
      simp only at h
      split
      · rename_i hw
        rw [if_pos hw] at h
        exact op_in (hd i o e) (h.resolve_right (fun hh => hQ hh.2))
      · rename_i hw
        rw [if_neg hw] at h
        exact ⟨fun _ _ => trivial, h⟩
def noDefer (ops : Array Oper) : Bool := ops.all (fun o => match o.op with | .defer _ => false | _ => true)
theorem noDefer_spec {ops : Array Oper} (h : noDefer ops = true) : ∀ (i : Nat) (o : Oper), ops[i]? = some o → ∀ c, o.op ≠ .defer c := by
  intro i o ho c e
  unfold noDefer at h
  rw [Array.all_eq_true_iff_forall_mem] at h
  have := h o (Array.mem_of_getElem? ho)
  rw [e] at this
  cases this
def NoOut (Q : Exit → Act → World → Prop) : Exit → Act → World → Prop
  | .outgrown, _, _ => False
  | e, a, w => Q e a w
theorem noOut_imp {Q : Exit → Act → World → Prop} : ∀ (e : Exit) (a : Act) (w : World), NoPanic (NoOut Q) e a w → Q e a w := fun e a w h => by
  cases e <;> first | exact h | exact (h : False).elim
theorem region_in {ops : Array Oper} {Q : Exit → Act → World → Prop} {l0 n : Nat} {id : Nat} {base : Array Value} {ds : List Deferred} {w : World} (m : Nat) (lag : List Nat) (spec : Nat → Value → World → Prop) (hm0 : 0 < m) (hl0 : 0 ∉ lag) (hm : P.follows .mixedOrders = true) (sh : shapeB ops m base.size lag = true) (hnd : noDefer ops = true)
    (hst : ∀ i x w w', spec i x w → Ex (fun _ => False) w w' → spec i x w') (hstep : ∀ i, i < m → i ∉ lag → StepOk P ops base m (fun _ => False) (fun _ _ => False) spec w.drew i) (hpure : ∀ i, i ∈ lag → PureOk P ops base m (fun _ => False) spec w.drew i)
    (hlast : ∀ (xs : Nat → Value) (w' : World), Ex (fun _ => False) w w' → (∀ i, i < m → spec i (xs i) w') → ∀ K : Exit → Act → World → Prop, (∀ a w, Q .normal a w → K .normal a w) → wpList P ops K (ops.toList.drop m) { tmps := putSlots ops base xs m, defers := ds } w') :
    (Code.region id ops true).wpIn (Fence.wide.inRound l0) n P Q { tmps := base, defers := ds } w := by
  refine wpIn_mono (wpIn_region_any hm (any_in (fun ⟨_, _, h⟩ => h) (noDefer_spec hnd) _ _ _ _ (byJ_any (Q := NoOut Q) m lag spec ⟨0, 0, fun _ _ _ _ => True⟩ hm0 ⟨hl0, hl0⟩ hm sh (fun _ => False) (fun _ _ => False) (fun _ _ h => h) (fun i j x w w' _ h hx => hst j x w w' h hx) (fun i hi hnl => ?_) hpure trivial (fun xs w' hx hs _ => hlast xs w' hx hs)))) ?_
  · intro o ho ρ yl w1 hx h1 h2 h3 h4 h5 bp bq jv _ _ _
    have h := hstep i hi hnl o ho ρ yl w1 hx h1 h2 h3 h4 h5
    split at h
    · rename_i hw
      rw [if_pos hw]
      rcases h with ⟨x, w', a, b, c⟩ | ⟨f, args, a, b⟩
      · exact .inl ⟨x, w', a, b, c, trivial⟩
      · refine .inr ⟨f, args, a, b.mono ?_⟩
        rintro e w' ⟨x, a, b, c⟩
        exact ⟨x, a, b, c, trivial⟩
    · rename_i hw
      rw [if_neg hw]
      exact ⟨h, trivial⟩
  · exact noOut_imp
end
end Go.Proofs.Ythkemcekcfccpaa.GBrandCompares
end
section
namespace Go.Proofs.Ythkemcekcfccpaa.PBrandCompares
open Go.RowKit Go.Proofs.YthkemcekcfccpaaW.PrintWords Go.Proofs.YthkemcekcfccpaaW.PrintLast Go.Proofs.YthkemcekcfccpaaW.PrintMore
open Go.Proofs.Ythkemcekcfccpaa.GBrandCompares
set_option linter.unusedVariables false
set_option linter.unusedSimpArgs false
theorem all_calls (v : Value) (w : World) (hv : v.oneCell' = true) : Calls Try.prog 25 #[v] w fun e w' => e = .returned (.func (.func 48) #[] #[.pointer (some ⟨w.heap.size, 0, none⟩)]) ∧ w' = w.alloc (.cells #[v] 39) := by
  have hmf : ∀ (fn : Fn) (first cap : Array Value) (w : World), (Instr.makeFunc fn first cap).run Try.prog w = .ok (.func fn first cap) w := fun _ _ _ _ => rfl
  go_enter Try.func25, Try.ntmps25
  go_wp2
  go_ret
  exact ⟨rfl, rfl⟩
end Go.Proofs.Ythkemcekcfccpaa.PBrandCompares
end
section
namespace Go.Proofs.Ythkemcekcfccpaa.GBrandCompares
open Go.RowKit
set_option linter.unusedVariables false
section
variable {P : Program}
theorem calls_of_wp_marks {f : FuncId} {fn : Func} {c : Code} {args : Array Value} {w : World} {R : Ending → World → Prop} (hf : P.funcs[f]? = some fn) (hb : fn.body = some c)
    (h : c.wp P (bodyPostM Fence.wide 0 P fn R) { tmps := args ++ Array.replicate (fn.ntmps - args.size) undef, defers := [] } w) : Calls P f args w R :=
  callsIn_wide.1 (callsIn_of_wp_marks (F := Fence.wide) (n := 0) hf hb trivial (wpIn_wide.2 h) rfl)
end
end Go.Proofs.Ythkemcekcfccpaa.GBrandCompares
end
section
namespace Go.Proofs.Ythkemcekcfccpaa.PBrandCompares
open Go.RowKit Go.Shelf Go.Proofs.YthkemcekcfccpaaW.PrintWords Go.Proofs.YthkemcekcfccpaaW.PrintLast Go.Proofs.YthkemcekcfccpaaW.PrintMore
open Go.Proofs.Ythkemcekcfccpaa.GBrandCompares
set_option linter.unusedVariables false
set_option linter.unusedSimpArgs false
attribute [local go_sem] Oper.semAt_some
def Sorted (rows xs : List Row) : Prop := (xs.map Row.core).Perm (rows.map Row.core) ∧ xs.Pairwise (fun r s => r.n < s.n)
def sortN (rows : List Row) : List Row := rows.mergeSort (fun r s => decide (r.n ≤ s.n))
theorem sortN_perm (rows : List Row) : (sortN rows).Perm rows := List.mergeSort_perm _ _
theorem sortN_lt {rows : List Row} (h : rows.Pairwise (fun r s => r.n ≠ s.n)) : (sortN rows).Pairwise (fun r s => r.n < s.n) := by
  have h1 : (sortN rows).Pairwise (fun r s => decide (r.n ≤ s.n) = true) := List.pairwise_mergeSort (fun a b c h1 h2 => by simp at *; omega) (fun a b => by simp; omega) rows
  have h2 : (sortN rows).Pairwise (fun r s => r.n ≠ s.n) := (sortN_perm rows).symm.pairwise h (fun h => Ne.symm h)
  refine List.Pairwise.imp₂ (fun a b h1 h2 => ?_) h1 h2
  simp at h1
  omega
def below (xs : List Row) (i : Nat) : List Row := xs.filter (fun r => decide (r.n < i))
theorem below_split : ∀ {xs : List Row} (h : xs.Pairwise (fun r s => r.n < s.n)) {r : Row} (hr : r ∈ xs), ∃ suf, xs = below xs r.n ++ r :: suf ∧ below xs (r.n + 1) = below xs r.n ++ [r]
  | [], _, r, hr => by simp at hr
  | a :: xs, h, r, hr => by
    rw [List.pairwise_cons] at h
    rcases List.mem_cons.1 hr with rfl | hr
    · have e1 : below xs r.n = [] := List.filter_eq_nil_iff.2 (fun s hs => by have := h.1 s hs; simp; omega)
      have e2 : below xs (r.n + 1) = [] := List.filter_eq_nil_iff.2 (fun s hs => by have := h.1 s hs; simp; omega)
      refine ⟨xs, ?_, ?_⟩
      · rw [below, List.filter_cons_of_neg (by simp)]
        rw [below] at e1
        rw [e1]
        rfl
      · rw [below, below, List.filter_cons_of_pos (by simp), List.filter_cons_of_neg (by simp)]
        rw [below] at e1 e2
        rw [e1, e2]
        rfl
    · obtain ⟨suf, h1, h2⟩ := below_split h.2 hr
      have := h.1 r hr
      refine ⟨suf, ?_, ?_⟩
      · rw [below, List.filter_cons_of_pos (by simp; omega), List.cons_append]
        congr 1
      · rw [below, below, List.filter_cons_of_pos (by simp; omega), List.filter_cons_of_pos (by simp; omega), List.cons_append]
        congr 1
theorem below_skip {xs : List Row} {i : Nat} (h : ∀ r ∈ xs, r.n ≠ i) : below xs (i + 1) = below xs i := by
  unfold below
  apply List.filter_congr
  intro r hr
  have := h r hr
  simp
  omega
theorem below_all {xs : List Row} {i : Nat} (h : ∀ r ∈ xs, r.n < i) : below xs i = xs := List.filter_eq_self.2 (fun r hr => by simpa using h r hr)
theorem info45n : (Try.prog.info? 45).map (fun i => (i.zero, i.size, i.bytes)) = some (some .nilIface, 1, 16) := by kernel_rfl
theorem look_ord {w : World} {r clock : Nat} {es : Array MapEntry} {rows : List Row} (hb : w.heap[r]? = some (.map es clock)) (hes : es.toList = rows.map Row.e2) (k : Int) (hn : ∀ r ∈ rows, (r.n : Int) ≠ k) :
    (Instr.lookup 64 (.map (some r)) (.int .i64 k) true).run Try.prog w = .ok (.tuple #[.nilIface, .bool false]) w := by
  have hc : ∀ e, (Instr.checkKey e 10000 3 (.int .i64 k)).run Try.prog w = .ok () w := fun e => check_int Try.underlying3 e 9999 _ w
  have hf : (Instr.findKey 3 (.int .i64 k) es.toList).run Try.prog w = .ok none w := Go.MapKept.run_findKey Try.underlying3 (find_order _ _ _ (by
    rw [hes]
    intro e he
    obtain ⟨r, hr, rfl⟩ := List.mem_map.1 he
    exact ⟨r.n, rfl, hn r hr⟩))
  unfold Instr.lookup
  rw [Sem.run_bind, run_underlying Try.underlying64, Result.andThen_ok]
  obtain ⟨i, hi, hz, _, _⟩ := info_parts info45n
  simp [Sem.run_bind, Go.MapKept.run_getObj_map hb, Result.andThen_ok, Sem.run_pure, hc, hf, zeroValue, typeInfo, hi, hz, Result.andThen]
theorem look_num {w : World} {r clock : Nat} {es : Array MapEntry} {rows : List Row} (hb : w.heap[r]? = some (.map es clock)) (hes : es.toList = rows.map Row.e2) {j : Nat} {q : Row} (hq : rows[j]? = some q) (hp : rows.Pairwise (fun r s => r.n ≠ s.n)) :
    (Instr.lookup 64 (.map (some r)) (.int .i64 q.n) true).run Try.prog w = .ok (.tuple #[q.m.val, .bool true]) w := by
  have hc : ∀ e, (Instr.checkKey e 10000 3 (.int .i64 q.n)).run Try.prog w = .ok () w := fun e => check_int Try.underlying3 e 9999 _ w
  have hf : (Instr.findKey 3 (.int .i64 q.n) es.toList).run Try.prog w = .ok (some (0 + j, q.e2.val)) w := Go.MapKept.run_findKey Try.underlying3 (find_num _ _ 0 j q.e2 (by
    rw [hes]
    intro e he
    obtain ⟨r, hr, rfl⟩ := List.mem_map.1 he
    exact ⟨r.n, rfl⟩) (by rw [hes, List.getElem?_map, hq]; rfl) rfl (by
    rw [hes]
    intro j' e' hj he
    rw [List.getElem?_map] at he
    cases hr : rows[j']? with
    | none => rw [hr] at he; simp at he
    | some s =>
      rw [hr] at he
      obtain rfl : s.e2 = e' := by simpa using he
      rw [List.pairwise_iff_getElem] at hp
      obtain ⟨h1, h2⟩ := List.getElem?_eq_some_iff.1 hr
      obtain ⟨h3, h4⟩ := List.getElem?_eq_some_iff.1 hq
      have := hp j' j h1 h3 hj
      rw [h2, h4] at this
      intro e
      apply this
      have e3 : (s.n : Int) = q.n := by simpa [Row.e2] using e
      omega))
  unfold Instr.lookup
  rw [Sem.run_bind, run_underlying Try.underlying64, Result.andThen_ok]
  simp [Sem.run_bind, Go.MapKept.run_getObj_map hb, Result.andThen_ok, Sem.run_pure, hc, hf, Row.e2]
theorem pos_row {rows : List Row} {j : Nat} {q : Row} (hm : rows.Pairwise (fun r s => r.m ≠ s.m)) (hk : ∀ m ∈ rows.map (·.m), m.keys = true) (hq : rows[j]? = some q) : posMk q.m (rows.map (·.m)) = some j := by
  have hmem : q.m ∈ rows.map (·.m) := List.mem_map.2 ⟨q, List.mem_of_getElem? hq, rfl⟩
  cases hp : posMk q.m (rows.map (·.m)) with
  | none => exact absurd rfl (posMk_none (hk _ hmem) hp _ hmem)
  | some j' =>
    have hj := posMk_key (hk _ hmem) hk hp
    rw [List.getElem?_map] at hj
    cases hr : rows[j']? with
    | none => rw [hr] at hj; simp at hj
    | some s =>
      rw [hr] at hj
      have hs : s.m = q.m := by simpa using hj
      obtain ⟨a1, a2⟩ := List.getElem?_eq_some_iff.1 hr
      obtain ⟨b1, b2⟩ := List.getElem?_eq_some_iff.1 hq
      rw [List.pairwise_iff_getElem] at hm
      rcases Nat.lt_trichotomy j' j with h | h | h
      · exact absurd (by rw [a2, b2, hs]) (hm j' j a1 b1 h)
      · rw [h]
      · exact absurd (by rw [a2, b2, hs]) (hm j j' b1 a1 h)
theorem sorted_of {rows rows2 : List Row} (hp : (rows2.map Row.core).Perm (rows.map Row.core)) (hn : rows2.Pairwise (fun r s => r.n ≠ s.n)) : Sorted rows (sortN rows2) := ⟨((sortN_perm rows2).map _).trans hp, sortN_lt hn⟩
set_option maxHeartbeats 4000000 in
set_option maxRecDepth 100000 in
theorem iter_calls (l bx g mb ob n : Nat) (T : Nat → Prop) (rows : List Row) (came : Nat) (hcame : came < 1000000000) (J Jx : List Row → World → Prop) (w : World) (hb : w.heap[bx]? = some (.cells #[.pointer (some ⟨g, 0, none⟩)] 39 (0, 0))) (hT : Tab w g mb ob T rows came)
    (hJ : ∀ pre W W', J pre W → Ex (fun _ => False) W W' → J pre W')
    (hY : ∀ (pre : List Row) (r : Row) (W1 : World) (lo hi : Nat), J pre W1 → w.heap.size ≤ lo → Lone W1 lo hi r → hi ≤ W1.heap.size → r.k.f3.length ≤ r.ca → r.v.f3.length ≤ r.cb → (∃ suf, Sorted rows (pre ++ r :: suf)) →
      YieldAt Fence.wide n Try.prog l #[.agg #[.int .u8 r.k.f0, .int .i64 r.k.f1, .string r.k.f2, .slice r.A r.k.f3.length r.ca, .int .i64 r.k.f4], .agg #[.int .u8 r.v.f0, .int .i64 r.v.f1, .string r.v.f2, .slice r.B r.v.f3.length r.cb, .int .i64 r.v.f4]] W1 fun e W' =>
        (e = .returned (.bool true) ∧ J (pre ++ [r]) W' ∧ Ex (fun b => b < w.heap.size ∨ (lo ≤ b ∧ b < hi)) W1 W') ∨ (e = .returned (.bool false) ∧ Jx (pre ++ [r]) W'))
    (h0 : J [] w) : Calls Try.prog 48 #[.func (.yield l) #[] #[], .pointer (some ⟨bx, 0, none⟩)] w fun e W' => (∃ v, e = .returned v) ∧ ((∃ xs, Sorted rows xs ∧ J xs W') ∨ (∃ pre, Jx pre W')) := by
  have HT := Aside0.mk hT
  have HJ := Aside0.mk hJ
  have HY := Aside0.mk hY
  have H0 := Aside0.mk h0
  have c0 := (blk_cell hb 0).trans rfl
  have bl := lt_of_blk hb
  clear hT hJ hY h0
  refine callsIn_wide.1 (callsIn_of_wp (F := Fence.wide) (n := n + 1) Try.func48 rfl trivial ?_ rfl)
  simp only [Try.ntmps48, List.size_toArray, List.length_cons, List.length_nil, Nat.reduceAdd, Nat.reduceSub, Array.replicate_succ, Array.replicate_zero, List.push_toArray, List.append_toArray, List.nil_append, List.cons_append]
  gi_wp2
  refine ⟨trivial, callsIn_wide.2 ((copy_calls g mb ob T rows came _ HT.out).mono ?_)⟩
  rintro e w2 ⟨g2, mb2, ob2, rows2, rfl, hT2, hperm, hx2, lo, hlo1, hlo2, hlo3, hlo4, cut, hc0, hcs, hce, hlone⟩
  have HT2 := Aside0.mk hT2
  have HJ2 := Aside0.mk (HJ.out _ _ _ H0.out hx2)
  have HX2 := Aside0.mk hx2.size
  obtain ⟨es2, cl2, hm2, hes2⟩ := hT2.hm
  obtain ⟨es3, cl3, ho2, hes3⟩ := hT2.ho
  have HS := Aside0.mk (And.intro hes2 hes3)
  have HB := Aside0.mk (And.intro hT2.hg (And.intro hm2 ho2))
  have HL := Aside0.mk (And.intro hc0 (And.intro hcs (And.intro hce hlone)))
  have HLO := Aside0.mk (And.intro hlo1 (And.intro hlo2 (And.intro hlo3 hlo4)))
  have HP := Aside0.mk hperm
  have hgw : w.heap.size ≤ g2 := hT2.tg
  have hmw : w.heap.size ≤ mb2 := hT2.tm
  have how : w.heap.size ≤ ob2 := hT2.tb
  have HW := Aside0.mk (And.intro hgw (And.intro hmw how))
  clear hT2 hperm hx2 hlo1 hlo2 hlo3 hlo4 hc0 hcs hce hlone hes2 hes3 hm2 ho2 c0 bl hb H0 hgw hmw how
  gi_wp2
  gi_loopw [4] (fun p wr => ∃ i : Nat, p = .int .i64 i ∧ 1 ≤ i ∧ i ≤ came + 1 ∧ Aside0 (wr.heap[g2]? = some (.cells #[.map (some mb2), .map (some ob2), .int .i64 came] 66 (0, 0)) ∧ wr.heap[mb2]? = some (.map es2 cl2) ∧ wr.heap[ob2]? = some (.map es3 cl3)) ∧ Aside0 (w2.heap.size ≤ wr.heap.size ∧ ∀ j r, rows2[j]? = some r → i ≤ r.n → Lone wr (cut j) (cut (j + 1)) r) ∧ Aside0 (J (below (sortN rows2) i) wr))
    (fun p wr => came + 1 - (intOf p).toNat)
  case atStart =>
    refine ⟨1, rfl, Nat.le_refl _, by omega, HB, ⟨Nat.le_refl _, fun j r hr _ => HL.out.2.2.2 j r hr⟩, ⟨?_⟩⟩
    have : below (sortN rows2) 1 = [] := List.filter_eq_nil_iff.2 (fun r hr => by have := (HT2.out.nums r ((sortN_perm rows2).mem_iff.1 hr)).1; simp; omega)
    rw [this]
    exact HJ2.out
  case round =>
    obtain ⟨i, rfl, hi1, hi2, HBR, HLR, HJR⟩ := hrel
    have g1 := (blk_cell HBR.out.1 1).trans rfl
    have g2c := (blk_cell HBR.out.1 2).trans rfl
    have g0 := (blk_cell HBR.out.1 0).trans rfl
    have gl := lt_of_blk HBR.out.1
    by_cases hic : i ≤ came
    · have hic2 : (i : Int) ≤ (came : Int) := by omega
      by_cases hex : ∃ (j : Nat) (q : Row), rows2[j]? = some q ∧ q.n = i
      · obtain ⟨j, q, hq, rfl⟩ := hex
        have hlo := look_num HBR.out.2.2 HS.out.2 hq HT2.out.cames
        obtain ⟨i0, hi0, hz0, _, _⟩ := info_parts info78
        have hlk := run_lookup 63 78 Try.underlying63 hi0 hz0 HBR.out.2.1 (HT2.out.good q (List.mem_of_getElem? hq)).key HT2.out.key_all (HT2.out.keys_map HS.out.1) false
        rw [pos_row HT2.out.marks (fun m h => (HT2.out.key_all m h).1) hq, under_row HS.out.1 hq] at hlk
        obtain ⟨t1, u1, hu1⟩ := q.m.val_iface
        simp only [Row.val, hu1, Bool.false_eq_true, if_false] at hlo hlk
        have hxa : Ex (fun _ => False) wr (wr.alloc (.cells #[.int .u8 q.k.f0, .int .i64 q.k.f1, .string q.k.f2, .slice q.A q.k.f3.length q.ca, .int .i64 q.k.f4, .int .u8 q.v.f0, .int .i64 q.v.f1, .string q.v.f2, .slice q.B q.v.f3.length q.cb, .int .i64 q.v.f4, .int .i64 q.n] 78)) := (Ex.refl _ _).alloc _
        have hqs : q ∈ sortN rows2 := (sortN_perm rows2).mem_iff.2 (List.mem_of_getElem? hq)
        obtain ⟨suf, hsp1, hsp2⟩ := below_split (sortN_lt HT2.out.cames) hqs
        have hcj : lo ≤ cut j := Nat.le_trans HL.out.1 (cut_le HL.out.2.1 (Nat.zero_le j))
        have hgq := HT2.out.good q (List.mem_of_getElem? hq)
        obtain ⟨fn, tmps, assign, body, hy, hR⟩ := HY.out (below (sortN rows2) q.n) q (wr.alloc (.cells #[.int .u8 q.k.f0, .int .i64 q.k.f1, .string q.k.f2, .slice q.A q.k.f3.length q.ca, .int .i64 q.k.f4, .int .u8 q.v.f0, .int .i64 q.v.f1, .string q.v.f2, .slice q.B q.v.f3.length q.cb, .int .i64 q.v.f4, .int .i64 q.n] 78)) (cut j) (cut (j + 1)) (HJ.out _ _ _ HJR.out hxa) (by have := HLO.out.2.2.2; omega) ((HLR.out.2 j q hq (Nat.le_refl _)).ex hxa (fun _ _ _ h => h)) (Nat.le_trans (Nat.le_trans (Nat.le_trans (cut_le HL.out.2.1 (show j + 1 ≤ rows2.length from (List.getElem?_eq_some_iff.1 hq).1)) HL.out.2.2.1) HLR.out.1) hxa.size) hgq.lk hgq.lv ⟨suf, hsp1 ▸ sorted_of HP.out HT2.out.cames⟩
        have hxw := hxa.mono (S2 := fun b => b < w.heap.size ∨ (cut j ≤ b ∧ b < cut (j + 1))) (fun _ h => h.elim)
        have HR := Aside0.mk hR
        have HSP := Aside0.mk hsp2
        have HQ := Aside0.mk hq
        have HCJ := Aside0.mk hcj
        have HXA := Aside0.mk hxa
        have HQN := Aside0.mk hi1
        clear hR hsp1 hsp2 hq hcj hxa hgq hqs hi0 hz0 hu1
        gi_wp2
        refine HR.out.mono ?_
        rintro e W' (⟨rfl, hJ', hx'⟩ | ⟨rfl, hJx⟩)
        · have HX3 := Aside0.mk ((show Ex (fun b => b < w.heap.size ∨ (cut j ≤ b ∧ b < cut (j + 1))) wr _ from hxw).trans hx' (fun b hb => .inl hb))
          have HJ3 := Aside0.mk hJ'
          clear hJ' hx' hlo hlk hy g1 g2c g0 gl
          gi_wp2
          go_roundw
          case rel =>
            refine ⟨q.n + 1, by go_num, by omega, by omega, ?_, ?_, ⟨by rw [HSP.out]; exact HJ3.out⟩⟩
            · have hw := HW.out
              have hl := HLO.out
              have hc := HCJ.out
              exact ⟨HX3.out.blk HBR.out.1 (by omega), HX3.out.blk HBR.out.2.1 (by omega), HX3.out.blk HBR.out.2.2 (by omega)⟩
            · refine ⟨Nat.le_trans HLR.out.1 HX3.out.size, fun j' r hr hn => (HLR.out.2 j' r hr (by omega)).ex HX3.out (fun b hb1 hb2 hs => ?_)⟩
              have hl := HLO.out.2.2.2
              have h0 := HL.out.1
              have h1 := cut_le HL.out.2.1 (Nat.zero_le j')
              rcases hs with hs | hs
              · omega
              · rcases Nat.lt_trichotomy j' j with h | h | h
                · have := cut_le HL.out.2.1 (show j' + 1 ≤ j from h)
                  omega
                · subst h
                  have e := hr.symm.trans HQ.out
                  cases e
                  omega
                · have := cut_le HL.out.2.1 (show j + 1 ≤ j' from h)
                  omega
          case measure => simp [intOf]; omega
        · clear hlo hlk hy g1 g2c g0 gl
          gi_wp2
          refine bodyPost_ret (results_none rfl _ _ _) rfl ?_
          exact ⟨⟨_, rfl⟩, .inr ⟨_, hJx⟩⟩
      · have hlo := look_ord HBR.out.2.2 HS.out.2 (i : Int) (fun r hr e => hex (by obtain ⟨j, hj⟩ := List.getElem?_of_mem hr; exact ⟨j, r, hj, by omega⟩))
        have HEX := Aside0.mk hex
        clear hex
        gi_wp2
        go_roundw
        case rel =>
          refine ⟨i + 1, by go_num, by omega, by omega, HBR, ⟨HLR.out.1, fun j r hr hn => HLR.out.2 j r hr (by omega)⟩, ⟨?_⟩⟩
          rw [below_skip (fun r hr e => by obtain ⟨j, hj⟩ := List.getElem?_of_mem ((sortN_perm rows2).mem_iff.1 hr); exact HEX.out ⟨j, r, hj, e⟩)]
          exact HJR.out
        case measure => simp [intOf]; omega
    · have hic2 : ¬ (i : Int) ≤ (came : Int) := by omega
      gi_wp2
      go_end0
      refine ⟨⟨_, rfl⟩, .inl ⟨sortN rows2, sorted_of HP.out HT2.out.cames, ?_⟩⟩
      have := HJR.out
      rw [below_all (fun r hr => by have := (HT2.out.nums r ((sortN_perm rows2).mem_iff.1 hr)).2; omega)] at this
      exact this
end Go.Proofs.Ythkemcekcfccpaa.PBrandCompares
end
section
namespace Go.Proofs.Ythkemcekcfccpaa.PBrandCompares
open Go.RowKit Go.Proofs.YthkemcekcfccpaaW.PrintWords Go.Proofs.YthkemcekcfccpaaW.PrintLast Go.Proofs.YthkemcekcfccpaaW.PrintMore
open Go.Proofs.Ythkemcekcfccpaa.GBrandCompares
set_option linter.unusedVariables false
set_option linter.unusedSimpArgs false
abbrev Core := Mk × S27 × S27 × Nat
def Core.kv (c : Core) : S27 × S27 := (c.2.1, c.2.2.1)
def Pr.kv (p : Pr) : S27 × S27 := (p.k, p.v)
def Rel (rows : List Row) (l : List Pr) : Prop := ∃ cs : List Core, cs.Perm (rows.map Row.core) ∧ cs.Pairwise (fun a b => a.2.2.2 < b.2.2.2) ∧ cs.map Core.kv = l.map Pr.kv
theorem Rel.nil : Rel [] [] := ⟨[], List.Perm.refl _, .nil, rfl⟩
theorem Rel.perm {rows rows2 : List Row} {l : List Pr} (h : Rel rows l) (hp : (rows2.map Row.core).Perm (rows.map Row.core)) : Rel rows2 l :=
  let ⟨cs, h1, h2, h3⟩ := h; ⟨cs, h1.trans hp.symm, h2, h3⟩
theorem sorted_one : ∀ {cs ds : List Core}, cs.Perm ds → cs.Pairwise (fun a b => a.2.2.2 < b.2.2.2) → ds.Pairwise (fun a b => a.2.2.2 < b.2.2.2) → cs = ds
  | [], ds, h, _, _ => (List.nil_perm.1 h).symm
  | a :: cs, [], h, _, _ => by simp at h
  | a :: cs, b :: ds, h, hc, hd => by
    rw [List.pairwise_cons] at hc hd
    have hab : a = b := by
      have h1 : a ∈ b :: ds := h.mem_iff.1 (.head _)
      have h2 : b ∈ a :: cs := h.mem_iff.2 (.head _)
      rcases List.mem_cons.1 h1 with e | e
      · exact e
      · rcases List.mem_cons.1 h2 with e2 | e2
        · exact e2.symm
        · have := hc.1 b e2
          have := hd.1 a e
          omega
    subst hab
    rw [sorted_one (List.Perm.cons_inv h) hc.2 hd.2]
theorem Rel.sorted {rows xs : List Row} {l : List Pr} (h : Rel rows l) (hs : Sorted rows xs) : xs.map (fun r => (r.k, r.v)) = l.map Pr.kv := by
  obtain ⟨cs, h1, h2, h3⟩ := h
  have h4 : (xs.map Row.core).Pairwise (fun a b => a.2.2.2 < b.2.2.2) := List.pairwise_map.2 hs.2
  have e := sorted_one (h1.trans hs.1.symm) h2 h4
  rw [← h3, e, List.map_map]
  rfl
theorem Rel.add {rows : List Row} {l : List Pr} (h : Rel rows l) (r : Row) (p : Pr) (hp : p.k = r.k ∧ p.v = r.v) (hn : ∀ s ∈ rows, s.n < r.n) : Rel (rows ++ [r]) (l ++ [p]) := by
  obtain ⟨cs, h1, h2, h3⟩ := h
  refine ⟨cs ++ [r.core], by rw [List.map_append]; exact h1.append_right _, ?_, by rw [List.map_append, List.map_append, h3]; simp [Core.kv, Pr.kv, Row.core, hp.1, hp.2]⟩
  rw [List.pairwise_append]
  refine ⟨h2, by simp, fun a ha b hb => ?_⟩
  rw [List.mem_singleton] at hb
  subst hb
  obtain ⟨s, hs, rfl⟩ := List.mem_map.1 (h1.mem_iff.1 ha)
  exact hn s hs
theorem Rel.keys {rows : List Row} {l : List Pr} (h : Rel rows l) (x : S27) : x ∈ l.map (·.k) ↔ x ∈ rows.map (·.k) := by
  obtain ⟨cs, h1, _, h3⟩ := h
  have e1 : l.map (·.k) = cs.map (fun c => c.2.1) := by
    have := congrArg (fun l => l.map Prod.fst) h3
    simp only [List.map_map] at this
    exact this.symm
  rw [e1]
  simp only [List.mem_map]
  constructor
  · rintro ⟨c, hc, rfl⟩
    obtain ⟨s, hs, rfl⟩ := List.mem_map.1 (h1.mem_iff.1 hc)
    exact ⟨s, hs, rfl⟩
  · rintro ⟨s, hs, rfl⟩
    exact ⟨s.core, h1.mem_iff.2 (List.mem_map.2 ⟨s, hs, rfl⟩), rfl⟩
theorem Rel.len {rows : List Row} {l : List Pr} (h : Rel rows l) : l.length = rows.length := by
  obtain ⟨cs, h1, _, h3⟩ := h
  have := congrArg List.length h3
  have := h1.length_eq
  simp at *
  omega
theorem noP_iff {l : List Pr} {x : S27} : NoP l x ↔ x ∉ l.map (·.k) := by
  constructor
  · intro h hm
    obtain ⟨p, hp, rfl⟩ := List.mem_map.1 hm
    obtain ⟨j, hj⟩ := List.getElem?_of_mem hp
    have := h j p hj
    rw [eqS_iff.2 rfl] at this
    cases this
  · intro h j q hq
    cases he : eqS q.k x with
    | false => rfl
    | true => exact absurd (List.mem_map.2 ⟨q, List.mem_of_getElem? hq, eqS_iff.1 he⟩) h
theorem Rel.at {rows : List Row} {l : List Pr} (h : Rel rows l) (hd : rows.Pairwise (fun r s => r.k ≠ s.k)) {i j : Nat} {p : Pr} {r : Row} (hp : l[i]? = some p) (hr : rows[j]? = some r) (hk : p.k = r.k) :
    ∃ cs : List Core, cs.Perm (rows.map Row.core) ∧ cs.Pairwise (fun a b => a.2.2.2 < b.2.2.2) ∧ cs.map Core.kv = l.map Pr.kv ∧ cs[i]? = some r.core := by
  obtain ⟨cs, h1, h2, h3⟩ := h
  refine ⟨cs, h1, h2, h3, ?_⟩
  have h4 := congrArg (fun l => l[i]?) h3
  simp only [List.getElem?_map, hp, Option.map_some] at h4
  cases hc : cs[i]? with
  | none => rw [hc] at h4; simp at h4
  | some c =>
    rw [hc] at h4
    have h5 : Core.kv c = Pr.kv p := by simpa using h4
    obtain ⟨s, hs, rfl⟩ := List.mem_map.1 (h1.mem_iff.1 (List.mem_of_getElem? hc))
    have h6 : s.k = r.k := (congrArg Prod.fst h5).trans hk
    obtain ⟨j2, hj2⟩ := List.getElem?_of_mem hs
    have : j2 = j := by
      rw [List.pairwise_iff_getElem] at hd
      obtain ⟨a1, a2⟩ := List.getElem?_eq_some_iff.1 hj2
      obtain ⟨b1, b2⟩ := List.getElem?_eq_some_iff.1 hr
      rcases Nat.lt_trichotomy j2 j with h | h | h
      · exact absurd (by rw [a2, b2, h6]) (hd j2 j a1 b1 h)
      · exact h
      · exact absurd (by rw [a2, b2, h6]) (hd j j2 b1 a1 h)
    subst this
    rw [hr] at hj2
    cases hj2
    rfl
theorem Rel.val {rows : List Row} {l : List Pr} (h : Rel rows l) (hd : rows.Pairwise (fun r s => r.k ≠ s.k)) {i j : Nat} {p : Pr} {r : Row} (hp : l[i]? = some p) (hr : rows[j]? = some r) (hk : p.k = r.k) : p.v = r.v := by
  obtain ⟨cs, _, _, h3, h4⟩ := h.at hd hp hr hk
  have h5 := congrArg (fun l => l[i]?) h3
  simp only [List.getElem?_map, hp, h4, Option.map_some] at h5
  have h6 : Core.kv r.core = Pr.kv p := by simpa using h5
  exact (congrArg Prod.snd h6).symm
theorem perm_erase {α : Type} {a : α} : ∀ {l : List α} {i : Nat}, l[i]? = some a → l.Perm (a :: l.eraseIdx i)
  | [], i, h => by simp at h
  | x :: l, 0, h => by
    have : x = a := by simpa using h
    subst this
    exact List.Perm.refl _
  | x :: l, i + 1, h => by
    have ih := perm_erase (l := l) (i := i) (by simpa using h)
    exact (List.Perm.cons x ih).trans (List.Perm.swap a x _)
theorem perm_set {α : Type} {a b : α} : ∀ {l : List α} {i : Nat}, l[i]? = some a → (l.set i b).Perm (b :: l.eraseIdx i)
  | [], i, h => by simp at h
  | x :: l, 0, h => List.Perm.refl _
  | x :: l, i + 1, h => by
    have ih := perm_set (b := b) (l := l) (i := i) (by simpa using h)
    exact (List.Perm.cons x ih).trans (List.Perm.swap b x _)
theorem perm_erase2 {α : Type} {a : α} {l m : List α} {i j : Nat} (h : l.Perm m) (hi : l[i]? = some a) (hj : m[j]? = some a) : (l.eraseIdx i).Perm (m.eraseIdx j) :=
  List.Perm.cons_inv ((perm_erase hi).symm.trans (h.trans (perm_erase hj)))
theorem set_same_nums {cs : List Core} {i : Nat} {a b : Core} (h : cs[i]? = some a) (hn : b.2.2.2 = a.2.2.2) : (cs.set i b).map (fun c => c.2.2.2) = cs.map (fun c => c.2.2.2) := by
  apply List.ext_getElem?
  intro q
  rw [List.getElem?_map, List.getElem?_map, List.getElem?_set]
  by_cases e : i = q
  · subst e
    obtain ⟨hl, ha⟩ := List.getElem?_eq_some_iff.1 h
    simp [hl, hn, ha]
  · rw [if_neg e]
theorem Rel.turn {rows : List Row} {l : List Pr} (h : Rel rows l) (hd : rows.Pairwise (fun r s => r.k ≠ s.k)) {i j : Nat} {p q : Pr} {r : Row} (hp : l[i]? = some p) (hr : rows[j]? = some r) (hk : p.k = r.k) (y : S27) (B : Option Addr) (d : Nat) (hq : q.k = p.k ∧ q.v = y) : Rel (rows.set j (r.turn y B d)) (l.set i q) := by
  obtain ⟨cs, h1, h2, h3, h4⟩ := h.at hd hp hr hk
  have hjr : (rows.map Row.core)[j]? = some r.core := by rw [List.getElem?_map, hr]; rfl
  refine ⟨cs.set i (r.turn y B d).core, ?_, ?_, ?_⟩
  · rw [List.map_set]
    exact (perm_set h4).trans ((List.Perm.cons _ (perm_erase2 h1 h4 hjr)).trans (perm_set hjr).symm)
  · have h5 : (cs.map (fun c : Core => c.2.2.2)).Pairwise (fun a b => a < b) := List.pairwise_map.2 h2
    rw [← set_same_nums h4 (show (r.turn y B d).core.2.2.2 = r.core.2.2.2 from rfl)] at h5
    exact List.pairwise_map.1 h5
  · rw [List.map_set, List.map_set, h3]
    congr 1
    simp [Core.kv, Pr.kv, Row.core, Row.turn, hq.1, hq.2, hk]
theorem Rel.drop {rows : List Row} {l : List Pr} (h : Rel rows l) (hd : rows.Pairwise (fun r s => r.k ≠ s.k)) {i j : Nat} {p : Pr} {r : Row} (hp : l[i]? = some p) (hr : rows[j]? = some r) (hk : p.k = r.k) : Rel (rows.eraseIdx j) (l.eraseIdx i) := by
  obtain ⟨cs, h1, h2, h3, h4⟩ := h.at hd hp hr hk
  have hjr : (rows.map Row.core)[j]? = some r.core := by rw [List.getElem?_map, hr]; rfl
  refine ⟨cs.eraseIdx i, ?_, h2.sublist (List.eraseIdx_sublist _ _), ?_⟩
  · rw [← map_erase]
    exact perm_erase2 h1 h4 hjr
  · rw [← map_erase, ← map_erase, h3]
theorem Tab.kapart {T : Nat → Prop} {w : World} {g mb ob : Nat} {rows : List Row} {came : Nat} (h : Tab w g mb ob T rows came) : rows.Pairwise (fun r s => r.k ≠ s.k) := by
  have hm := h.marks
  rw [List.pairwise_iff_getElem] at hm ⊢
  intro i j hi hj hij e
  apply hm i j hi hj hij
  have g1 := h.good _ (List.getElem_mem hi)
  have g2 := h.good _ (List.getElem_mem hj)
  have := g1.mark
  rw [e] at this
  exact ((mark_one _ _ _ this g2.mark).2 g1.key.1).symm
end Go.Proofs.Ythkemcekcfccpaa.PBrandCompares
end
section
namespace Go.Proofs.Ythkemcekcfccpaa.PBrandCompares
open Go.RowKit Go.Proofs.YthkemcekcfccpaaW.PrintWords Go.Proofs.YthkemcekcfccpaaW.PrintLast Go.Proofs.YthkemcekcfccpaaW.PrintMore
open Go.Proofs.Ythkemcekcfccpaa.GBrandCompares
set_option linter.unusedVariables false
set_option linter.unusedSimpArgs false
def mk5 : List Value := [.int .u8 1, .int .i64 (-77), .string ⟨#[]⟩, .slice none 0 0, .int .i64 0]
theorem mk5_0 : mk5[0]? = some (.int .u8 1) := rfl
theorem mk5_1 : mk5[1]? = some (.int .i64 (-77)) := rfl
theorem mk5_2 : mk5[2]? = some (.string ⟨#[]⟩) := rfl
theorem mk5_3 : mk5[3]? = some (.slice none 0 0) := rfl
theorem mk5_4 : mk5[4]? = some (.int .i64 0) := rfl
def Sp (T : Nat → Prop) (w w' : World) : Prop :=
  Ex T w w' ∧ ∀ g cs, T g → w.heap[g]? = some (.cells cs 27 (0, 0)) → ∃ cs', w'.heap[g]? = some (.cells cs' 27 (0, 0)) ∧ cs'.size = cs.size ∧
    ∀ i, i * 5 + 5 ≤ cs.size → (∀ j, j < 5 → cs'[i * 5 + j]? = cs[i * 5 + j]?) ∨ ∀ j, j < 5 → cs'[i * 5 + j]? = mk5[j]?
theorem Sp.refl (T : Nat → Prop) (w : World) : Sp T w w := ⟨Ex.refl _ _, fun g cs _ h => ⟨cs, h, rfl, fun i _ => .inl fun j _ => rfl⟩⟩
theorem Sp.trans {T : Nat → Prop} {w w1 w2 : World} (h : Sp T w w1) (k : Sp T w1 w2) : Sp T w w2 := by
  refine ⟨h.1.trans k.1 (fun b hb => .inl hb), fun g cs hg hc => ?_⟩
  obtain ⟨cs1, h1, h2, h3⟩ := h.2 g cs hg hc
  obtain ⟨cs2, k1, k2, k3⟩ := k.2 g cs1 hg h1
  refine ⟨cs2, k1, k2.trans h2, fun i hi => ?_⟩
  rcases k3 i (by omega) with k4 | k4
  · rcases h3 i hi with h4 | h4
    · exact .inl fun j hj => (k4 j hj).trans (h4 j hj)
    · exact .inr fun j hj => (k4 j hj).trans (h4 j hj)
  · exact .inr k4
theorem Sp.grown {T : Nat → Prop} {w w1 : World} (h : Ex (fun _ => False) w w1) : Sp T w w1 :=
  ⟨h.mono (fun _ h => h.elim), fun g cs hg hc => ⟨cs, h.blk hc (fun h => h), rfl, fun i _ => .inl fun j _ => rfl⟩⟩
theorem set5 {w : World} {g k : Nat} {cs : Array Value} (h : w.heap[g]? = some (.cells cs 27 (0, 0))) (a b c d e : Value) :
    (((((w.setCell ⟨g, k * 5, none⟩ a).setCell ⟨g, k * 5 + 1, none⟩ b).setCell ⟨g, k * 5 + 2, none⟩ c).setCell ⟨g, k * 5 + 3, none⟩ d).setCell ⟨g, k * 5 + 4, none⟩ e).heap[g]? =
      some (.cells (((((cs.setIfInBounds (k * 5) a).setIfInBounds (k * 5 + 1) b).setIfInBounds (k * 5 + 2) c).setIfInBounds (k * 5 + 3) d).setIfInBounds (k * 5 + 4) e) 27 (0, 0)) :=
  blk_put (blk_put (blk_put (blk_put (blk_put h _ _ rfl) _ _ rfl) _ _ rfl) _ _ rfl) _ _ rfl
theorem Sp.one {T : Nat → Prop} {w : World} {g k : Nat} {cs : Array Value} (h : w.heap[g]? = some (.cells cs 27 (0, 0))) (hT : T g) (hk : k * 5 + 5 ≤ cs.size) :
    Sp T w (((((w.setCell ⟨g, k * 5, none⟩ (.int .u8 1)).setCell ⟨g, k * 5 + 1, none⟩ (.int .i64 (-77))).setCell ⟨g, k * 5 + 2, none⟩ (.string ⟨#[]⟩)).setCell ⟨g, k * 5 + 3, none⟩ (.slice none 0 0)).setCell ⟨g, k * 5 + 4, none⟩ (.int .i64 0)) := by
  refine ⟨(((((Ex.refl T w).set (p := ⟨g, k * 5, none⟩) (.inl hT) _).set (p := ⟨g, k * 5 + 1, none⟩) (.inl hT) _).set (p := ⟨g, k * 5 + 2, none⟩) (.inl hT) _).set (p := ⟨g, k * 5 + 3, none⟩) (.inl hT) _).set (p := ⟨g, k * 5 + 4, none⟩) (.inl hT) _, fun g' cs' hg' hc' => ?_⟩
  by_cases e : g' = g
  · subst e
    rw [h] at hc'
    cases hc'
    refine ⟨_, set5 h _ _ _ _ _, by simp, fun i hi => ?_⟩
    by_cases ei : i = k
    · subst ei
      right
      intro j hj
      obtain rfl | rfl | rfl | rfl | rfl : j = 0 ∨ j = 1 ∨ j = 2 ∨ j = 3 ∨ j = 4 := by omega
      all_goals (simp [Array.getElem?_setIfInBounds, mk5]; try omega)
    · left
      intro j hj
      simp only [Array.getElem?_setIfInBounds]
      rw [if_neg (by omega), if_neg (by omega), if_neg (by omega), if_neg (by omega), if_neg (by omega)]
  · refine ⟨cs', ?_, rfl, fun i _ => .inl fun j _ => rfl⟩
    have hx : Ex (fun b => b = g) w (((((w.setCell ⟨g, k * 5, none⟩ (.int .u8 1)).setCell ⟨g, k * 5 + 1, none⟩ (.int .i64 (-77))).setCell ⟨g, k * 5 + 2, none⟩ (.string ⟨#[]⟩)).setCell ⟨g, k * 5 + 3, none⟩ (.slice none 0 0)).setCell ⟨g, k * 5 + 4, none⟩ (.int .i64 0)) :=
      (((((Ex.refl (fun b => b = g) w).set (p := ⟨g, k * 5, none⟩) (.inl rfl) _).set (p := ⟨g, k * 5 + 1, none⟩) (.inl rfl) _).set (p := ⟨g, k * 5 + 2, none⟩) (.inl rfl) _).set (p := ⟨g, k * 5 + 3, none⟩) (.inl rfl) _).set (p := ⟨g, k * 5 + 4, none⟩) (.inl rfl) _
    exact hx.blk hc' e
abbrev SPOIL (a b : Int) (s : ByteArray) (v : Value) (d : Int) (w : World) (R : Ending → World → Prop) : Prop := Calls Try.prog 44 #[.agg #[.int .u8 a, .int .i64 b, .string s, v, .int .i64 d]] w R
theorem spoil_nil (a b : Int) (s : ByteArray) (d : Int) (w : World) : SPOIL a b s (.slice none 0 0) d w fun e w' => (∃ v, e = .returned v) ∧ Ex (fun _ => False) w w' := by
  have HX := Aside0.mk ((Ex.refl (fun _ => False) w).alloc (.cells #[.int .u8 a, .int .i64 b, .string s, .slice none 0 0, .int .i64 d] 27))
  unfold SPOIL
  go_enter Try.func44, Try.ntmps44
  go_wp2_with fail
  go_loopg [2] 1 (fun m v2 wr => v2 = .int .i64 0 ∧ wr = w.alloc (.cells #[.int .u8 a, .int .i64 b, .string s, .slice none 0 0, .int .i64 d] 27))
  case atStart => exact ⟨rfl, rfl⟩
  case round =>
    obtain ⟨rfl, rfl⟩ := hrel
    go_wp2_with fail
    go_end0
    exact ⟨⟨_, rfl⟩, HX.out⟩
set_option maxHeartbeats 2000000 in
set_option maxRecDepth 100000 in
theorem spoil_calls (x : S27) : ∀ (lo : Nat) (T T' : Nat → Prop) (w w' : World) (a b : Int) (s : ByteArray) (d : Int) (v : Value), Kd.R k27 27 w lo T v x.f3 → (∀ k, T k → T' k) → (∀ k, T' k → k < w.heap.size) → Sp T' w w' →
    SPOIL a b s v d w' fun e w'' => (∃ r, e = .returned r) ∧ Sp T' w' w'' := by
  induction x using S27.ind with
  | h x ih =>
    intro lo T T' w w' a b s d v hR hTT hT hsp
    by_cases hn : x.f3.length = 0
    · obtain ⟨A, cap, rfl, _, _⟩ := Kd.R_reads hR
      rw [hn]
      have HX := Aside0.mk ((Ex.refl (fun _ => False) w').alloc (.cells #[.int .u8 a, .int .i64 b, .string s, .slice A 0 cap, .int .i64 d] 27))
      unfold SPOIL
      go_enter Try.func44, Try.ntmps44
      go_wp2_with fail
      go_loopg [2] 1 (fun m v2 wr => v2 = .int .i64 0 ∧ wr = w'.alloc (.cells #[.int .u8 a, .int .i64 b, .string s, .slice A 0 cap, .int .i64 d] 27))
      case atStart => exact ⟨rfl, rfl⟩
      case round =>
        obtain ⟨rfl, rfl⟩ := hrel
        go_wp2_with fail
        go_end0
        exact ⟨⟨_, rfl⟩, Sp.grown HX.out⟩
    · obtain ⟨g, cap, rfl, _, hgl, cs0, hcs0⟩ := Kd.R_form hR (by omega)
      have h1 := hR.1
      have hlen : x.f3.length ≤ 9223372036854775807 := (Kd.R_reads' hR).2.2.2.1
      have h1 : ∀ k, g = k → T k := fun k hk => h1 k (by simp [Value.ownBlock, hk])
      have HB0 := Aside0.mk (Sp.grown (T := T') ((Ex.refl (fun _ => False) w').alloc (.cells #[.int .u8 a, .int .i64 b, .string s, .slice (some ⟨g, 0, none⟩) x.f3.length cap, .int .i64 d] 27)))
      have HC0 := Aside0.mk (blk_new1 w' (.cells #[.int .u8 a, .int .i64 b, .string s, .slice (some ⟨g, 0, none⟩) x.f3.length cap, .int .i64 d] 27))
      have HRR := Aside0.mk hR
      have HT := Aside0.mk (And.intro hTT hT)
      have HSW := Aside0.mk hsp
      have HIH := Aside0.mk ih
      have HG := Aside0.mk (And.intro hgl hcs0)
      clear hR hTT hT hsp ih
      unfold SPOIL
      go_enter Try.func44, Try.ntmps44
      go_wp2_with fail
      clear hcs0 hgl
      go_loopg [2] x.f3.length (fun m v2 wr => ∃ i : Nat, v2 = .int .i64 i ∧ Aside0 (i + m = x.f3.length) ∧ Aside0 (Sp T' w' wr) ∧ Aside0 (wr.heap[w'.heap.size]? = some (.cells #[.int .u8 a, .int .i64 b, .string s, .slice (some ⟨g, 0, none⟩) x.f3.length cap, .int .i64 d] 27 (0, 0))))
      case atStart => exact ⟨0, rfl, ⟨by omega⟩, HB0, HC0⟩
      case round =>
        obtain ⟨i, rfl, HM, HS, HBX⟩ := hrel
        have b3 := (blk_cell HBX.out 3).trans rfl
        have bl := lt_of_blk HBX.out
        by_cases hi : i < x.f3.length
        · have hii : (i : Int) < (x.f3.length : Int) := by omega
          have hi0 : (0 : Int) ≤ (i : Int) := by omega
          have hcs0 := HG.out.2
          obtain ⟨ce, hcl, hM, hcc, _⟩ := Kd.R_elem HRR.out z27 (i : Int) hi0 hii
          obtain ⟨v3, rfl, hR3⟩ := k27_openM hM
          have hy : x.f3.getD (i : Int).toNat z27 ∈ x.f3 := by rw [Int.toNat_natCast, List.getD_eq_getElem?_getD, List.getElem?_eq_getElem hi]; exact List.getElem_mem _
          generalize x.f3.getD (i : Int).toNat z27 = y at hcc hR3 hy
          simp only [Int.toNat_natCast, show k27.sz = 5 from rfl] at hcc
          have p0 := (blk_cell hcs0 (i * 5 + 0)).symm.trans (hcc 0 _ rfl)
          have p1 := (blk_cell hcs0 (i * 5 + 1)).symm.trans (hcc 1 _ rfl)
          have p2 := (blk_cell hcs0 (i * 5 + 2)).symm.trans (hcc 2 _ rfl)
          have p3 := (blk_cell hcs0 (i * 5 + 3)).symm.trans (hcc 3 _ rfl)
          have p4 := (blk_cell hcs0 (i * 5 + 4)).symm.trans (hcc 4 _ rfl)
          have h5 : i * 5 + 5 ≤ cs0.size := by have := (Array.getElem?_eq_some_iff.1 p4).1; omega
          have HSR := Aside0.mk (HSW.out.trans HS.out)
          obtain ⟨cs1, hc1, hs1, hgr⟩ := HSR.out.2 g cs0 (HT.out.1 g (h1 g rfl)) hcs0
          have gl := lt_of_blk hc1
          have HR3 := Aside0.mk hR3
          have HY := Aside0.mk hy
          clear hR3 hy hM hcl
          rcases hgr i h5 with hg | hg
          · have q0 : wr.cell? ⟨g, i * 5, none⟩ = some _ := ((blk_cell hc1 (i * 5 + 0)).trans (hg 0 (by omega))).trans p0
            have q1 := ((blk_cell hc1 (i * 5 + 1)).trans (hg 1 (by omega))).trans p1
            have q2 := ((blk_cell hc1 (i * 5 + 2)).trans (hg 2 (by omega))).trans p2
            have q3 := ((blk_cell hc1 (i * 5 + 3)).trans (hg 3 (by omega))).trans p3
            have q4 := ((blk_cell hc1 (i * 5 + 4)).trans (hg 4 (by omega))).trans p4
            clear p0 p1 p2 p3 p4 hg hgr hc1
            go_wp2_with fail
            refine (HIH.out y HY.out lo _ T' w wr y.f0 y.f1 y.f2 y.f4 v3 HR3.out (fun k hk => HT.out.1 k hk.1) HT.out.2 HSR.out).mono ?_
            rintro e wz ⟨⟨r, rfl⟩, hz⟩
            clear b3 bl gl
            have HZ := Aside0.mk hz
            clear hz q0 q1 q2 q3 q4 hcc
            have hbz := HZ.out.1.blk HBX.out (fun h => by have := HT.out.2 _ h; have := HSW.out.1.size; omega)
            obtain ⟨cs2, hc2, hs2, _⟩ := (HSR.out.trans HZ.out).2 g cs0 (HT.out.1 g (h1 g rfl)) hcs0
            have e0 : wz.cell? ⟨g, i * 5, none⟩ = some (cs2[i * 5]'(by omega)) := (blk_cell hc2 (i * 5)).trans (Array.getElem?_eq_getElem (by omega))
            have e1 : wz.cell? ⟨g, i * 5 + 1, none⟩ = some (cs2[i * 5 + 1]'(by omega)) := (blk_cell hc2 (i * 5 + 1)).trans (Array.getElem?_eq_getElem (by omega))
            have e2 : wz.cell? ⟨g, i * 5 + 2, none⟩ = some (cs2[i * 5 + 2]'(by omega)) := (blk_cell hc2 (i * 5 + 2)).trans (Array.getElem?_eq_getElem (by omega))
            have e3 : wz.cell? ⟨g, i * 5 + 3, none⟩ = some (cs2[i * 5 + 3]'(by omega)) := (blk_cell hc2 (i * 5 + 3)).trans (Array.getElem?_eq_getElem (by omega))
            have e4 : wz.cell? ⟨g, i * 5 + 4, none⟩ = some (cs2[i * 5 + 4]'(by omega)) := (blk_cell hc2 (i * 5 + 4)).trans (Array.getElem?_eq_getElem (by omega))
            have f0 := blk_frozen hc2 (i * 5)
            have f1 := blk_frozen hc2 (i * 5 + 1)
            have f2 := blk_frozen hc2 (i * 5 + 2)
            have f3 := blk_frozen hc2 (i * 5 + 3)
            have f4 := blk_frozen hc2 (i * 5 + 4)
            have b3 := (blk_cell hbz 3).trans rfl
            have bl := lt_of_blk hbz
            have gl := lt_of_blk hc2
            have hone := Sp.one (T := T') (k := i) hc2 (HT.out.1 g (h1 g rfl)) (by omega)
            have HONE := Aside0.mk hone
            have HBZ := Aside0.mk (hone.1.blk hbz (fun h => by have := HT.out.2 _ h; have := HSW.out.1.size; omega))
            clear hone hc2 hbz
            go_wp2_with fail
            go_roundg (gk - 1)
            case measure => have := HM.out; omega
            case rel => exact ⟨i + 1, by go_num, ⟨by have := HM.out; omega⟩, ⟨(HS.out.trans HZ.out).trans HONE.out⟩, HBZ⟩
          · have q0 : wr.cell? ⟨g, i * 5, none⟩ = some (.int .u8 1) := ((blk_cell hc1 (i * 5 + 0)).trans (hg 0 (by omega))).trans mk5_0
            have q1 := ((blk_cell hc1 (i * 5 + 1)).trans (hg 1 (by omega))).trans mk5_1
            have q2 := ((blk_cell hc1 (i * 5 + 2)).trans (hg 2 (by omega))).trans mk5_2
            have q3 := ((blk_cell hc1 (i * 5 + 3)).trans (hg 3 (by omega))).trans mk5_3
            have q4 := ((blk_cell hc1 (i * 5 + 4)).trans (hg 4 (by omega))).trans mk5_4
            clear p0 p1 p2 p3 p4 hg hgr hc1
            go_wp2_with fail
            refine (spoil_nil 1 (-77) ⟨#[]⟩ 0 wr).mono ?_
            rintro e wz ⟨⟨r, rfl⟩, hz⟩
            replace hz := Sp.grown (T := T') hz
            clear b3 bl gl
            have HZ := Aside0.mk hz
            clear hz q0 q1 q2 q3 q4 hcc
            have hbz := HZ.out.1.blk HBX.out (fun h => by have := HT.out.2 _ h; have := HSW.out.1.size; omega)
            obtain ⟨cs2, hc2, hs2, _⟩ := (HSR.out.trans HZ.out).2 g cs0 (HT.out.1 g (h1 g rfl)) hcs0
            have e0 : wz.cell? ⟨g, i * 5, none⟩ = some (cs2[i * 5]'(by omega)) := (blk_cell hc2 (i * 5)).trans (Array.getElem?_eq_getElem (by omega))
            have e1 : wz.cell? ⟨g, i * 5 + 1, none⟩ = some (cs2[i * 5 + 1]'(by omega)) := (blk_cell hc2 (i * 5 + 1)).trans (Array.getElem?_eq_getElem (by omega))
            have e2 : wz.cell? ⟨g, i * 5 + 2, none⟩ = some (cs2[i * 5 + 2]'(by omega)) := (blk_cell hc2 (i * 5 + 2)).trans (Array.getElem?_eq_getElem (by omega))
            have e3 : wz.cell? ⟨g, i * 5 + 3, none⟩ = some (cs2[i * 5 + 3]'(by omega)) := (blk_cell hc2 (i * 5 + 3)).trans (Array.getElem?_eq_getElem (by omega))
            have e4 : wz.cell? ⟨g, i * 5 + 4, none⟩ = some (cs2[i * 5 + 4]'(by omega)) := (blk_cell hc2 (i * 5 + 4)).trans (Array.getElem?_eq_getElem (by omega))
            have f0 := blk_frozen hc2 (i * 5)
            have f1 := blk_frozen hc2 (i * 5 + 1)
            have f2 := blk_frozen hc2 (i * 5 + 2)
            have f3 := blk_frozen hc2 (i * 5 + 3)
            have f4 := blk_frozen hc2 (i * 5 + 4)
            have b3 := (blk_cell hbz 3).trans rfl
            have bl := lt_of_blk hbz
            have gl := lt_of_blk hc2
            have hone := Sp.one (T := T') (k := i) hc2 (HT.out.1 g (h1 g rfl)) (by omega)
            have HONE := Aside0.mk hone
            have HBZ := Aside0.mk (hone.1.blk hbz (fun h => by have := HT.out.2 _ h; have := HSW.out.1.size; omega))
            clear hone hc2 hbz
            go_wp2_with fail
            go_roundg (gk - 1)
            case measure => have := HM.out; omega
            case rel => exact ⟨i + 1, by go_num, ⟨by have := HM.out; omega⟩, ⟨(HS.out.trans HZ.out).trans HONE.out⟩, HBZ⟩
        · have hii : ¬ (i : Int) < (x.f3.length : Int) := by omega
          go_wp2_with fail
          go_end0
          exact ⟨⟨_, rfl⟩, HS.out⟩
end Go.Proofs.Ythkemcekcfccpaa.PBrandCompares
end
section
namespace Go.Proofs.Ythkemcekcfccpaa.PBrandCompares
open Go.RowKit Go.Proofs.YthkemcekcfccpaaW.PrintWords Go.Proofs.YthkemcekcfccpaaW.PrintLast Go.Proofs.YthkemcekcfccpaaW.PrintMore
open Go.Proofs.Ythkemcekcfccpaa.GBrandCompares
set_option linter.unusedVariables false
set_option linter.unusedSimpArgs false
theorem empty_b : (⟨#[]⟩ : ByteArray) = ByteArray.empty := rfl
theorem may_num (n : Int) : mayV (num n) = true := by simp [mayV, measureV, takeV, num, empty_b]
theorem may_txt (s : ByteArray) (h : s.size ≤ 256) : mayV (txt s) = true := by
  have : ¬ 256 < s.size := by omega
  simp [mayV, measureV, takeV, txt, this]
theorem may_nil : mayV (lst []) = true := by simp [mayV, measureV, takeV, takeL, lst, empty_b]
theorem may_two (m n : Int) : mayV (lst [num m, num n]) = true := by simp [mayV, measureV, takeV, takeL, lst, num, empty_b]
theorem of_num {n : Int} {m : Mk} (h : MarkOf (num n) m) : m = .number n := by
  cases m with
  | nothing => exact absurd rfl h.1
  | number k => rw [h.2]; rfl
  | text x => exact absurd (show (1 : Int) = 2 from h.1) (by decide)
  | refer x => exact absurd (show (1 : Int) = 4 from h.1) (by decide)
  | row v => exact absurd (show (1 : Int) = 3 from h.1) (by decide)
  | pair x y => exact absurd (show (1 : Int) = 3 from h.1) (by decide)
theorem of_txt {s : ByteArray} {m : Mk} (h : MarkOf (txt s) m) : m = .text s := by
  cases m with
  | nothing => exact absurd rfl h.2.1
  | number x => exact absurd (show (2 : Int) = 1 from h.1) (by decide)
  | text k => rw [h.2]; rfl
  | refer x => exact absurd (show (2 : Int) = 4 from h.1) (by decide)
  | row v => exact absurd (show (2 : Int) = 3 from h.1) (by decide)
  | pair x y => exact absurd (show (2 : Int) = 3 from h.1) (by decide)
theorem of_nil {m : Mk} (h : MarkOf (lst []) m) : ∃ v, m = .row v := by
  cases m with
  | nothing => exact absurd rfl h.2.2.2
  | number x => exact absurd (show (3 : Int) = 1 from h.1) (by decide)
  | text x => exact absurd (show (3 : Int) = 2 from h.1) (by decide)
  | refer x => exact absurd (show (3 : Int) = 4 from h.1) (by decide)
  | row v => exact ⟨v, rfl⟩
  | pair a b =>
    obtain ⟨_, y, z, hl, _⟩ := h
    cases hl
theorem of_two {a b : Int} {m : Mk} (h : MarkOf (lst [num a, num b]) m) : m = .pair (.number a) (.number b) := by
  cases m with
  | nothing => exact absurd rfl h.2.2.2
  | number x => exact absurd (show (3 : Int) = 1 from h.1) (by decide)
  | text x => exact absurd (show (3 : Int) = 2 from h.1) (by decide)
  | refer x => exact absurd (show (3 : Int) = 4 from h.1) (by decide)
  | row v => exact absurd rfl h.2
  | pair x y =>
    obtain ⟨_, y, z, hl, h1, h2⟩ := h
    cases hl
    rw [of_num h1, of_num h2]
set_option maxRecDepth 100000 in
set_option maxHeartbeats 4000000 in
theorem lives_calls (w : World) : Calls Try.prog 8 #[] w fun e w' => e = .returned (.bool true) ∧ Ex (fun _ => False) w w' := by
  have HX0 := Aside0.mk (Ex.refl (fun _ => False) w)
  go_enter Try.func8, Try.ntmps8
  go_wp2_with fail
  refine (number_calls 1 _).mono ?_
  rintro e w1 ⟨rfl, hx⟩
  have HX1 := Aside0.mk (HX0.out.trans hx (fun _ h => h.elim))
  clear hx
  go_wp2_with fail
  refine (word_calls _ _).mono ?_
  rintro e w2 ⟨rfl, hx⟩
  have HX2 := Aside0.mk (HX1.out.trans hx (fun _ h => h.elim))
  clear hx
  go_wp2_with fail
  refine (compare_unlike (num 1) (txt ⟨#[49]⟩) none none 0 0 _ (fun _ => False) (Kd.F_nil _ _ _) (Kd.F_nil _ _ _) (may_num 1) (may_txt _ (by decide)) (by intro m m2 h1 h2; rw [of_num h1, of_txt h2]; rfl)).mono ?_
  rintro e w3 ⟨rfl, hx⟩
  have HX3 := Aside0.mk (HX2.out.trans hx (fun _ h => h.elim))
  clear hx
  go_wp2_with fail
  refine (number_calls 1 _).mono ?_
  rintro e w4 ⟨rfl, hx⟩
  have HX4 := Aside0.mk (HX3.out.trans hx (fun _ h => h.elim))
  clear hx
  go_wp2_with fail
  refine (number_calls 2 _).mono ?_
  rintro e w5 ⟨rfl, hx⟩
  have HX5 := Aside0.mk (HX4.out.trans hx (fun _ h => h.elim))
  clear hx
  go_wp2_with fail
  refine (list_calls (some ⟨w5.heap.size, 0, none⟩) 2 2 _).mono ?_
  rintro e w6 ⟨rfl, hx⟩
  have HFa := Aside0.mk (ex_F hx (F_pair 1 2 (blk_new1 w5 (.cells #[.int .u8 1, .int .i64 1, .string ⟨#[]⟩, .slice none 0 0, .int .i64 0, .int .u8 1, .int .i64 2, .string ⟨#[]⟩, .slice none 0 0, .int .i64 0] 27))) (fun _ _ h => h))
  have HX6 := Aside0.mk ((HX5.out.alloc _).trans hx (fun _ h => h.elim))
  clear hx
  go_wp2_with fail
  refine (number_calls 1 _).mono ?_
  rintro e w7 ⟨rfl, hx⟩
  have HFa1 := Aside0.mk (ex_F hx HFa.out (fun _ _ h => h))
  have HX7 := Aside0.mk (HX6.out.trans hx (fun _ h => h.elim))
  clear hx
  go_wp2_with fail
  refine (number_calls 2 _).mono ?_
  rintro e w8 ⟨rfl, hx⟩
  have HFa2 := Aside0.mk (ex_F hx HFa1.out (fun _ _ h => h))
  have HX8 := Aside0.mk (HX7.out.trans hx (fun _ h => h.elim))
  clear hx
  go_wp2_with fail
  refine (list_calls (some ⟨w8.heap.size, 0, none⟩) 2 2 _).mono ?_
  rintro e w9 ⟨rfl, hx⟩
  have HFb := Aside0.mk (ex_F hx (F_pair 1 2 (blk_new1 w8 (.cells #[.int .u8 1, .int .i64 1, .string ⟨#[]⟩, .slice none 0 0, .int .i64 0, .int .u8 1, .int .i64 2, .string ⟨#[]⟩, .slice none 0 0, .int .i64 0] 27))) (fun _ _ h => h))
  have HFa3 := Aside0.mk (ex_F hx (Kd.F_alloc HFa2.out _) (fun _ _ h => h))
  have HX9 := Aside0.mk ((HX8.out.alloc _).trans hx (fun _ h => h.elim))
  clear hx
  go_wp2_with fail
  refine (compare_same (lst [num 1, num 2]) (lst [num 1, num 2]) (some ⟨w5.heap.size, 0, none⟩) (some ⟨w8.heap.size, 0, none⟩) 2 2 _ (fun k => k = w5.heap.size ∨ k = w8.heap.size) (Kd.F_mono HFa3.out (fun _ h => .inl h)) (Kd.F_mono HFb.out (fun _ h => .inr h)) (may_two 1 2) (may_two 1 2) (by intro m m2 h1 h2; rw [of_two h1, of_two h2]; rfl)).mono ?_
  rintro e w10 ⟨rfl, hx⟩
  have HX10 := Aside0.mk (HX9.out.trans hx (fun _ h => h.elim))
  clear hx
  go_wp2_with fail
  refine (list_calls none 0 0 _).mono ?_
  rintro e w11 ⟨rfl, hx⟩
  have HX11 := Aside0.mk (HX10.out.trans hx (fun _ h => h.elim))
  clear hx
  go_wp2_with fail
  refine (list_calls none 0 0 _).mono ?_
  rintro e w12 ⟨rfl, hx⟩
  have HX12 := Aside0.mk (HX11.out.trans hx (fun _ h => h.elim))
  clear hx
  go_wp2_with fail
  refine (compare_panic (lst []) (lst []) none none 0 0 _ (fun _ => False) (Kd.F_nil _ _ _) (Kd.F_nil _ _ _) may_nil may_nil (by intro m m2 h1 h2; obtain ⟨v, rfl⟩ := of_nil h1; obtain ⟨u, rfl⟩ := of_nil h2; rfl)).mono ?_
  rintro e w13 ⟨rfl, hx⟩
  have HX13 := Aside0.mk (HX12.out.trans hx (fun _ h => h.elim))
  clear hx
  go_wp2_with fail
  refine (new_calls _).mono ?_
  rintro e w14 ⟨rfl, hw⟩
  have HX14 := Aside0.mk (show Ex (fun _ => False) w w14 by rw [hw]; exact ((HX13.out.alloc _).alloc _).alloc _)
  have HT14 := Aside0.mk (show Tab w14 (w13.heap.size + 2) w13.heap.size (w13.heap.size + 1) (fun b => w13.heap.size ≤ b) [] 0 by rw [hw]; exact tab_new w13)
  clear hw
  go_wp2_with fail
  refine (word_calls _ _).mono ?_
  rintro e w15 ⟨rfl, hx⟩
  have HT15 := Aside0.mk (HT14.out.ex0 hx)
  have HX15 := Aside0.mk (HX14.out.trans hx (fun _ h => h.elim))
  clear hx
  go_wp2_with fail
  refine (number_calls 1 _).mono ?_
  rintro e w16 ⟨rfl, hx⟩
  have HT16 := Aside0.mk (HT15.out.ex0 hx)
  have HX16 := Aside0.mk (HX15.out.trans hx (fun _ h => h.elim))
  clear hx
  go_wp2_with fail
  refine (put_new (txt ⟨#[97]⟩) (num 1) none none 0 0 (w13.heap.size + 2) w13.heap.size (w13.heap.size + 1) _ (fun _ => False) [] 0 _ HT16.out (by omega) (Nat.le_refl _) (Nat.le_refl _) (Kd.F_nil _ _ _) (Kd.F_nil _ _ _) (fun _ h => h.elim) (may_txt _ (by decide)) (may_num 1) (.text ⟨#[97]⟩) (fun _ h => of_txt h) ⟨rfl, Nat.zero_le _⟩ rfl).mono ?_
  rintro e w17 ⟨rfl, hx, r, hr1, hr2, hr3, hr4, hT⟩
  obtain ⟨rm, rk, rv, rA, rca, rB, rcb, rn, rb1, rb2⟩ := r
  dsimp only at hr1 hr2 hr3 hr4
  subst hr1 hr2 hr3 hr4
  have HT17 := Aside0.mk hT
  have HX17 := Aside0.mk (HX16.out.trans hx (fun b hb => .inr (by have := HX13.out.size; rcases hb with rfl | rfl | rfl <;> omega)))
  clear hx hT
  simp only [zval]
  go_wp2_with fail
  refine (word_calls _ _).mono ?_
  rintro e w18 ⟨rfl, hx⟩
  have HT18 := Aside0.mk (HT17.out.ex0 (((Ex.refl _ _).alloc _).trans hx (fun _ h => h.elim)))
  have HX18 := Aside0.mk ((HX17.out.alloc _).trans hx (fun _ h => h.elim))
  clear hx
  go_wp2_with fail
  refine (number_calls 2 _).mono ?_
  rintro e w19 ⟨rfl, hx⟩
  have HT19 := Aside0.mk (HT18.out.ex0 hx)
  have HX19 := Aside0.mk (HX18.out.trans hx (fun _ h => h.elim))
  clear hx
  go_wp2_with fail
  refine (put_old (txt ⟨#[97]⟩) (num 2) none none 0 0 (w13.heap.size + 2) w13.heap.size (w13.heap.size + 1) _ (fun _ => False) _ (0 + 1) _ HT19.out (by omega) (Nat.le_refl _) (Nat.le_refl _) (Kd.F_nil _ _ _) (Kd.F_nil _ _ _) (fun _ h => h.elim) (may_txt _ (by decide)) (may_num 2) (.text ⟨#[97]⟩) (fun _ h => of_txt h) ⟨rfl, Nat.zero_le _⟩ 0 ⟨.text ⟨#[97]⟩, txt ⟨#[97]⟩, num 1, rA, rca, rB, rcb, 0 + 1, rb1, rb2⟩ rfl rfl rfl).mono ?_
  rintro e w20 ⟨rfl, hx, hFo, B2, d2, hT⟩
  have HT20 := Aside0.mk hT
  have HFo20 := Aside0.mk hFo
  have HX20 := Aside0.mk (HX19.out.trans hx (fun b hb => .inr (by have := HX13.out.size; rcases hb with rfl | rfl | rfl <;> omega)))
  clear hx hT hFo
  go_wp2_with fail
  refine (list_calls none 0 0 _).mono ?_
  rintro e w21 ⟨rfl, hx⟩
  have HT21 := Aside0.mk (HT20.out.ex0 (((Ex.refl _ _).alloc _).trans hx (fun _ h => h.elim)))
  have HO21 := Aside0.mk (hx.blk (blk_new1 w20 (.cells #[.int .u8 (num 1).f0, .int .i64 (num 1).f1, .string (num 1).f2, .slice rB (num 1).f3.length rcb, .int .i64 (num 1).f4] 27)) (fun h => h))
  have HX21 := Aside0.mk ((HX20.out.alloc _).trans hx (fun _ h => h.elim))
  clear hx
  go_wp2_with fail
  refine (number_calls 2 _).mono ?_
  rintro e w22 ⟨rfl, hx⟩
  have HT22 := Aside0.mk (HT21.out.ex0 hx)
  have HO22 := Aside0.mk (hx.blk HO21.out (fun h => h))
  have HX22 := Aside0.mk (HX21.out.trans hx (fun _ h => h.elim))
  clear hx
  go_wp2_with fail
  refine (put_key (lst []) (num 2) none none 0 0 (w13.heap.size + 2) w13.heap.size _ _ _ (fun _ => False) HT22.out.hg (Kd.F_nil _ _ _) (Kd.F_nil _ _ _) may_nil (may_num 2) (by intro m h; obtain ⟨v, rfl⟩ := of_nil h; rfl)).mono ?_
  rintro e w23 ⟨rfl, hx⟩
  have HT23 := Aside0.mk (HT22.out.ex0 hx)
  have HO23 := Aside0.mk (hx.blk HO22.out (fun h => h))
  have HX23 := Aside0.mk (HX22.out.trans hx (fun _ h => h.elim))
  have HFo23 := Aside0.mk (Kd.F_mono (ok' := fun _ => True) HFo20.out (fun _ _ => trivial))
  clear hx
  simp only [zval]
  go_wp2_with fail
  have HO := Aside0.mk (blk_alloc HO23.out (.cells #[.int .u8 0, .int .i64 0, .string ⟨#[]⟩, .slice none 0 0, .int .i64 0] 27))
  have HT := Aside0.mk (HT23.out.ex0 ((Ex.refl (fun _ => False) w23).alloc (.cells #[.int .u8 0, .int .i64 0, .string ⟨#[]⟩, .slice none 0 0, .int .i64 0] 27)))
  have HX := Aside0.mk (HX23.out.alloc (.cells #[.int .u8 0, .int .i64 0, .string ⟨#[]⟩, .slice none 0 0, .int .i64 0] 27))
  generalize w23.alloc (.cells #[.int .u8 0, .int .i64 0, .string ⟨#[]⟩, .slice none 0 0, .int .i64 0] 27) = W at HO HT HX ⊢
  have oc0 := (blk_cell HO.out 0).trans rfl
  have oc1 := (blk_cell HO.out 1).trans rfl
  have oc2 := (blk_cell HO.out 2).trans rfl
  have oc3 := (blk_cell HO.out 3).trans rfl
  have oc4 := (blk_cell HO.out 4).trans rfl
  have ol := lt_of_blk HO.out
  refine start_ (n := 52) (S := Any) (ds := [0, 1, 2, 3, 4, 5, 6, 7, 8, 9, 10, 11, 12, 13, 14, 15, 16, 17, 18, 19, 20, 21, 22, 23, 24, 25, 26, 27, 28, 29, 30, 31, 32, 33, 34, 35, 36, 37, 38, 39, 40, 41, 42, 43, 44, 45, 46, 47, 48, 49, 50, 51]) #[false, false, false, false, false, false, false, false, false, false, false, false, false, false, false, false, false, false, false, false, false, false, false, false, false, false, false, false, false, false, false, false, false, false, false, false, false, false, false, false, false, false, false, false, false, false, false, false, false, false, false, false] (by kernel_rfl) (by rfl) (by rfl) trivial (fun _ => ?_)
  refine stepV (i := 0) (N := some 68) #[true, false, false, false, false, false, false, false, false, false, false, false, false, false, false, false, false, false, false, false, false, false, false, false, false, false, false, false, false, false, false, false, false, false, false, false, false, false, false, false, false, false, false, false, false, false, false, false, false, false, false, false] rfl (by kernel_rfl) (by decide) rfl (by rfl) (.int .u8 0) (w1 := W.drew) (by rfl) (by simp only [Act.put, List.setIfInBounds_toArray, List.set_cons_zero, List.set_cons_succ]; rfl) ?_
  refine stepV (i := 1) (N := some 69) #[true, true, false, false, false, false, false, false, false, false, false, false, false, false, false, false, false, false, false, false, false, false, false, false, false, false, false, false, false, false, false, false, false, false, false, false, false, false, false, false, false, false, false, false, false, false, false, false, false, false, false, false] rfl (by kernel_rfl) (by decide) rfl (by rfl) (.bool true) (w1 := W.drew) (by rfl) (by simp only [Act.put, List.setIfInBounds_toArray, List.set_cons_zero, List.set_cons_succ]; rfl) ?_
  refine stepV (i := 2) (N := some 70) #[true, true, true, false, false, false, false, false, false, false, false, false, false, false, false, false, false, false, false, false, false, false, false, false, false, false, false, false, false, false, false, false, false, false, false, false, false, false, false, false, false, false, false, false, false, false, false, false, false, false, false, false] rfl (by kernel_rfl) (by decide) rfl (by rfl) (.bool true) (w1 := W.drew) (by rfl) (by simp only [Act.put, List.setIfInBounds_toArray, List.set_cons_zero, List.set_cons_succ]; rfl) ?_
  refine stepV (i := 3) (N := some 71) #[true, true, true, true, false, false, false, false, false, false, false, false, false, false, false, false, false, false, false, false, false, false, false, false, false, false, false, false, false, false, false, false, false, false, false, false, false, false, false, false, false, false, false, false, false, false, false, false, false, false, false, false] rfl (by kernel_rfl) (by decide) rfl (by rfl) (.int .i64 0) (w1 := W.drew) (by rfl) (by simp only [Act.put, List.setIfInBounds_toArray, List.set_cons_zero, List.set_cons_succ]; rfl) ?_
  refine stepV (i := 4) (N := some 72) #[true, true, true, true, true, false, false, false, false, false, false, false, false, false, false, false, false, false, false, false, false, false, false, false, false, false, false, false, false, false, false, false, false, false, false, false, false, false, false, false, false, false, false, false, false, false, false, false, false, false, false, false] rfl (by kernel_rfl) (by decide) rfl (by rfl) (.bool true) (w1 := W.drew) (by rfl) (by simp only [Act.put, List.setIfInBounds_toArray, List.set_cons_zero, List.set_cons_succ]; rfl) ?_
  refine stepV (i := 5) (N := some 73) #[true, true, true, true, true, true, false, false, false, false, false, false, false, false, false, false, false, false, false, false, false, false, false, false, false, false, false, false, false, false, false, false, false, false, false, false, false, false, false, false, false, false, false, false, false, false, false, false, false, false, false, false] rfl (by kernel_rfl) (by decide) rfl (by rfl) (.bool true) (w1 := W.drew) (by rfl) (by simp only [Act.put, List.setIfInBounds_toArray, List.set_cons_zero, List.set_cons_succ]; rfl) ?_
  refine stepV (i := 6) (N := some 74) #[true, true, true, true, true, true, true, false, false, false, false, false, false, false, false, false, false, false, false, false, false, false, false, false, false, false, false, false, false, false, false, false, false, false, false, false, false, false, false, false, false, false, false, false, false, false, false, false, false, false, false, false] rfl (by kernel_rfl) (by decide) rfl (by rfl) (.bool true) (w1 := W.drew) (by rfl) (by simp only [Act.put, List.setIfInBounds_toArray, List.set_cons_zero, List.set_cons_succ]; rfl) ?_
  refine stepV (i := 7) (N := some 75) #[true, true, true, true, true, true, true, true, false, false, false, false, false, false, false, false, false, false, false, false, false, false, false, false, false, false, false, false, false, false, false, false, false, false, false, false, false, false, false, false, false, false, false, false, false, false, false, false, false, false, false, false] rfl (by kernel_rfl) (by decide) rfl (by rfl) (.int .u8 1) (w1 := W.drew) (by rfl) (by simp only [Act.put, List.setIfInBounds_toArray, List.set_cons_zero, List.set_cons_succ]; rfl) ?_
  refine stepV (i := 8) (N := some 76) #[true, true, true, true, true, true, true, true, true, false, false, false, false, false, false, false, false, false, false, false, false, false, false, false, false, false, false, false, false, false, false, false, false, false, false, false, false, false, false, false, false, false, false, false, false, false, false, false, false, false, false, false] rfl (by kernel_rfl) (by decide) rfl (by rfl) (.bool true) (w1 := W.drew) (by rfl) (by simp only [Act.put, List.setIfInBounds_toArray, List.set_cons_zero, List.set_cons_succ]; rfl) ?_
  refine stepV (i := 9) (N := some 77) #[true, true, true, true, true, true, true, true, true, true, false, false, false, false, false, false, false, false, false, false, false, false, false, false, false, false, false, false, false, false, false, false, false, false, false, false, false, false, false, false, false, false, false, false, false, false, false, false, false, false, false, false] rfl (by kernel_rfl) (by decide) rfl (by rfl) (.bool true) (w1 := W.drew) (by rfl) (by simp only [Act.put, List.setIfInBounds_toArray, List.set_cons_zero, List.set_cons_succ]; rfl) ?_
  refine stepV (i := 10) (N := some 78) #[true, true, true, true, true, true, true, true, true, true, true, false, false, false, false, false, false, false, false, false, false, false, false, false, false, false, false, false, false, false, false, false, false, false, false, false, false, false, false, false, false, false, false, false, false, false, false, false, false, false, false, false] rfl (by kernel_rfl) (by decide) rfl (by rfl) (.bool true) (w1 := W.drew) (by rfl) (by simp only [Act.put, List.setIfInBounds_toArray, List.set_cons_zero, List.set_cons_succ]; rfl) ?_
  refine stepV (i := 11) (N := some 79) #[true, true, true, true, true, true, true, true, true, true, true, true, false, false, false, false, false, false, false, false, false, false, false, false, false, false, false, false, false, false, false, false, false, false, false, false, false, false, false, false, false, false, false, false, false, false, false, false, false, false, false, false] rfl (by kernel_rfl) (by decide) rfl (by rfl) (.int .i64 0) (w1 := W.drew) (by rfl) (by simp only [Act.put, List.setIfInBounds_toArray, List.set_cons_zero, List.set_cons_succ]; rfl) ?_
  refine stepV (i := 12) (N := some 80) #[true, true, true, true, true, true, true, true, true, true, true, true, true, false, false, false, false, false, false, false, false, false, false, false, false, false, false, false, false, false, false, false, false, false, false, false, false, false, false, false, false, false, false, false, false, false, false, false, false, false, false, false] rfl (by kernel_rfl) (by decide) rfl (by rfl) (.bool true) (w1 := W.drew) (by rfl) (by simp only [Act.put, List.setIfInBounds_toArray, List.set_cons_zero, List.set_cons_succ]; rfl) ?_
  refine stepV (i := 13) (N := some 81) #[true, true, true, true, true, true, true, true, true, true, true, true, true, true, false, false, false, false, false, false, false, false, false, false, false, false, false, false, false, false, false, false, false, false, false, false, false, false, false, false, false, false, false, false, false, false, false, false, false, false, false, false] rfl (by kernel_rfl) (by decide) rfl (by rfl) (.bool true) (w1 := W.drew) (by rfl) (by simp only [Act.put, List.setIfInBounds_toArray, List.set_cons_zero, List.set_cons_succ]; rfl) ?_
  refine stepV (i := 14) (N := some 82) #[true, true, true, true, true, true, true, true, true, true, true, true, true, true, true, false, false, false, false, false, false, false, false, false, false, false, false, false, false, false, false, false, false, false, false, false, false, false, false, false, false, false, false, false, false, false, false, false, false, false, false, false] rfl (by kernel_rfl) (by decide) rfl (by rfl) (.bool true) (w1 := W.drew) (by rfl) (by simp only [Act.put, List.setIfInBounds_toArray, List.set_cons_zero, List.set_cons_succ]; rfl) ?_
  refine stepV (i := 15) (N := some 83) #[true, true, true, true, true, true, true, true, true, true, true, true, true, true, true, true, false, false, false, false, false, false, false, false, false, false, false, false, false, false, false, false, false, false, false, false, false, false, false, false, false, false, false, false, false, false, false, false, false, false, false, false] rfl (by kernel_rfl) (by decide) rfl (by rfl) (.int .u8 2) (w1 := W.drew) (by rfl) (by simp only [Act.put, List.setIfInBounds_toArray, List.set_cons_zero, List.set_cons_succ]; rfl) ?_
  refine stepV (i := 16) (N := some 84) #[true, true, true, true, true, true, true, true, true, true, true, true, true, true, true, true, true, false, false, false, false, false, false, false, false, false, false, false, false, false, false, false, false, false, false, false, false, false, false, false, false, false, false, false, false, false, false, false, false, false, false, false] rfl (by kernel_rfl) (by decide) rfl (by rfl) (.bool true) (w1 := W.drew) (by rfl) (by simp only [Act.put, List.setIfInBounds_toArray, List.set_cons_zero, List.set_cons_succ]; rfl) ?_
  refine stepV (i := 17) (N := some 85) #[true, true, true, true, true, true, true, true, true, true, true, true, true, true, true, true, true, true, false, false, false, false, false, false, false, false, false, false, false, false, false, false, false, false, false, false, false, false, false, false, false, false, false, false, false, false, false, false, false, false, false, false] rfl (by kernel_rfl) (by decide) rfl (by rfl) (.bool true) (w1 := W.drew) (by rfl) (by simp only [Act.put, List.setIfInBounds_toArray, List.set_cons_zero, List.set_cons_succ]; rfl) ?_
  refine stepV (i := 18) (N := some 86) #[true, true, true, true, true, true, true, true, true, true, true, true, true, true, true, true, true, true, true, false, false, false, false, false, false, false, false, false, false, false, false, false, false, false, false, false, false, false, false, false, false, false, false, false, false, false, false, false, false, false, false, false] rfl (by kernel_rfl) (by decide) rfl (by rfl) (.bool true) (w1 := W.drew) (by rfl) (by simp only [Act.put, List.setIfInBounds_toArray, List.set_cons_zero, List.set_cons_succ]; rfl) ?_
  refine stepV (i := 19) (N := some 87) #[true, true, true, true, true, true, true, true, true, true, true, true, true, true, true, true, true, true, true, true, false, false, false, false, false, false, false, false, false, false, false, false, false, false, false, false, false, false, false, false, false, false, false, false, false, false, false, false, false, false, false, false] rfl (by kernel_rfl) (by decide) rfl (by rfl) (.int .i64 0) (w1 := W.drew) (by rfl) (by simp only [Act.put, List.setIfInBounds_toArray, List.set_cons_zero, List.set_cons_succ]; rfl) ?_
  refine stepV (i := 20) (N := some 88) #[true, true, true, true, true, true, true, true, true, true, true, true, true, true, true, true, true, true, true, true, true, false, false, false, false, false, false, false, false, false, false, false, false, false, false, false, false, false, false, false, false, false, false, false, false, false, false, false, false, false, false, false] rfl (by kernel_rfl) (by decide) rfl (by rfl) (.bool true) (w1 := W.drew) (by rfl) (by simp only [Act.put, List.setIfInBounds_toArray, List.set_cons_zero, List.set_cons_succ]; rfl) ?_
  refine stepV (i := 21) (N := some 89) #[true, true, true, true, true, true, true, true, true, true, true, true, true, true, true, true, true, true, true, true, true, true, false, false, false, false, false, false, false, false, false, false, false, false, false, false, false, false, false, false, false, false, false, false, false, false, false, false, false, false, false, false] rfl (by kernel_rfl) (by decide) rfl (by rfl) (.bool true) (w1 := W.drew) (by rfl) (by simp only [Act.put, List.setIfInBounds_toArray, List.set_cons_zero, List.set_cons_succ]; rfl) ?_
  refine stepV (i := 22) (N := some 90) #[true, true, true, true, true, true, true, true, true, true, true, true, true, true, true, true, true, true, true, true, true, true, true, false, false, false, false, false, false, false, false, false, false, false, false, false, false, false, false, false, false, false, false, false, false, false, false, false, false, false, false, false] rfl (by kernel_rfl) (by decide) rfl (by rfl) (.bool true) (w1 := W.drew) (by rfl) (by simp only [Act.put, List.setIfInBounds_toArray, List.set_cons_zero, List.set_cons_succ]; rfl) ?_
  refine stepV (i := 23) (N := some 91) #[true, true, true, true, true, true, true, true, true, true, true, true, true, true, true, true, true, true, true, true, true, true, true, true, false, false, false, false, false, false, false, false, false, false, false, false, false, false, false, false, false, false, false, false, false, false, false, false, false, false, false, false] rfl (by kernel_rfl) (by decide) rfl (by rfl) (.bool false) (w1 := W.drew) (by rfl) (by simp only [Act.put, List.setIfInBounds_toArray, List.set_cons_zero, List.set_cons_succ]; rfl) ?_
  refine stepV (i := 24) (N := some 92) #[true, true, true, true, true, true, true, true, true, true, true, true, true, true, true, true, true, true, true, true, true, true, true, true, true, false, false, false, false, false, false, false, false, false, false, false, false, false, false, false, false, false, false, false, false, false, false, false, false, false, false, false] rfl (by kernel_rfl) (by decide) rfl (by rfl) (.bool true) (w1 := W.drew) (by rfl) (by simp only [Act.put, List.setIfInBounds_toArray, List.set_cons_zero, List.set_cons_succ]; rfl) ?_
  refine stepV (i := 25) (N := some 93) #[true, true, true, true, true, true, true, true, true, true, true, true, true, true, true, true, true, true, true, true, true, true, true, true, true, true, false, false, false, false, false, false, false, false, false, false, false, false, false, false, false, false, false, false, false, false, false, false, false, false, false, false] rfl (by kernel_rfl) (by decide) rfl (by rfl) (.bool true) (w1 := W.drew) (by rfl) (by simp only [Act.put, List.setIfInBounds_toArray, List.set_cons_zero, List.set_cons_succ]; rfl) ?_
  refine stepV (i := 26) (N := some 94) #[true, true, true, true, true, true, true, true, true, true, true, true, true, true, true, true, true, true, true, true, true, true, true, true, true, true, true, false, false, false, false, false, false, false, false, false, false, false, false, false, false, false, false, false, false, false, false, false, false, false, false, false] rfl (by kernel_rfl) (by decide) rfl (by rfl) (.bool true) (w1 := W.drew) (by rfl) (by simp only [Act.put, List.setIfInBounds_toArray, List.set_cons_zero, List.set_cons_succ]; rfl) ?_
  refine stepV (i := 27) (N := some 95) #[true, true, true, true, true, true, true, true, true, true, true, true, true, true, true, true, true, true, true, true, true, true, true, true, true, true, true, true, false, false, false, false, false, false, false, false, false, false, false, false, false, false, false, false, false, false, false, false, false, false, false, false] rfl (by kernel_rfl) (by decide) rfl (by rfl) (.int .i64 0) (w1 := W.drew) (by rfl) (by simp only [Act.put, List.setIfInBounds_toArray, List.set_cons_zero, List.set_cons_succ]; rfl) ?_
  refine stepV (i := 28) (N := some 96) #[true, true, true, true, true, true, true, true, true, true, true, true, true, true, true, true, true, true, true, true, true, true, true, true, true, true, true, true, true, false, false, false, false, false, false, false, false, false, false, false, false, false, false, false, false, false, false, false, false, false, false, false] rfl (by kernel_rfl) (by decide) rfl (by rfl) (.bool true) (w1 := W.drew) (by rfl) (by simp only [Act.put, List.setIfInBounds_toArray, List.set_cons_zero, List.set_cons_succ]; rfl) ?_
  refine stepV (i := 29) (N := some 97) #[true, true, true, true, true, true, true, true, true, true, true, true, true, true, true, true, true, true, true, true, true, true, true, true, true, true, true, true, true, true, false, false, false, false, false, false, false, false, false, false, false, false, false, false, false, false, false, false, false, false, false, false] rfl (by kernel_rfl) (by decide) rfl (by rfl) (.bool true) (w1 := W.drew) (by rfl) (by simp only [Act.put, List.setIfInBounds_toArray, List.set_cons_zero, List.set_cons_succ]; rfl) ?_
  refine stepV (i := 30) (N := some 98) #[true, true, true, true, true, true, true, true, true, true, true, true, true, true, true, true, true, true, true, true, true, true, true, true, true, true, true, true, true, true, true, false, false, false, false, false, false, false, false, false, false, false, false, false, false, false, false, false, false, false, false, false] rfl (by kernel_rfl) (by decide) rfl (by rfl) (.bool true) (w1 := W.drew) (by rfl) (by simp only [Act.put, List.setIfInBounds_toArray, List.set_cons_zero, List.set_cons_succ]; rfl) ?_
  refine branchVC (i := 31) (j := 32) (Ni := some 99) (Nj := some 100) #[true, true, true, true, true, true, true, true, true, true, true, true, true, true, true, true, true, true, true, true, true, true, true, true, true, true, true, true, true, true, true, true, false, false, false, false, false, false, false, false, false, false, false, false, false, false, false, false, false, false, false, false] #[true, true, true, true, true, true, true, true, true, true, true, true, true, true, true, true, true, true, true, true, true, true, true, true, true, true, true, true, true, true, true, false, true, false, false, false, false, false, false, false, false, false, false, false, false, false, false, false, false, false, false, false] rfl rfl (by kernel_rfl) (by decide) (by decide) rfl rfl (by rfl) (.agg #[.int .u8 (num 1).f0, .int .i64 (num 1).f1, .string (num 1).f2, .slice rB (num 1).f3.length rcb, .int .i64 (num 1).f4]) (w1 := W.drew) (by go_simp) (by rfl) 27 #[.int .i64 1] (exec_call Try.func27 (by kernel_rfl) rfl _ rfl (by (try simp only [List.map_toArray, List.map_cons, List.map_nil]); first | done | rfl)) (by simp only [Act.put, List.setIfInBounds_toArray, List.set_cons_zero, List.set_cons_succ]; rfl) ?_ ?_
  · refine stepC (i := 32) (N := some 100) #[true, true, true, true, true, true, true, true, true, true, true, true, true, true, true, true, true, true, true, true, true, true, true, true, true, true, true, true, true, true, true, true, true, false, false, false, false, false, false, false, false, false, false, false, false, false, false, false, false, false, false, false] rfl (by kernel_rfl) (by decide) rfl (by rfl) 27 #[.int .i64 1] (exec_call Try.func27 (by kernel_rfl) rfl _ rfl (by (try simp only [List.map_toArray, List.map_cons, List.map_nil]); first | done | rfl)) ?_
    refine (number_calls 1 _).mono ?_
    rintro e w24 ⟨rfl, hx⟩
    refine ⟨_, rfl, ?_⟩
    simp only [Act.put, List.setIfInBounds_toArray, List.set_cons_zero, List.set_cons_succ]
    have HX24 := Aside0.mk (HX.out.drew.trans hx (fun _ h => h.elim))
    have HO24 := Aside0.mk (hx.blk (blk_drew HO.out) (fun h => h))
    have HT24 := Aside0.mk (HT.out.ex0 (((Ex.refl _ _).drew).trans hx (fun _ h => h.elim)))
    clear hx
    refine stepC (i := 33) (N := some 101) #[true, true, true, true, true, true, true, true, true, true, true, true, true, true, true, true, true, true, true, true, true, true, true, true, true, true, true, true, true, true, true, true, true, true, false, false, false, false, false, false, false, false, false, false, false, false, false, false, false, false, false, false] rfl (by kernel_rfl) (by decide) rfl (by rfl) 26 #[.agg #[.int .u8 (num 1).f0, .int .i64 (num 1).f1, .string (num 1).f2, .slice rB (num 1).f3.length rcb, .int .i64 (num 1).f4], .agg #[.int .u8 1, .int .i64 1, .string ⟨#[]⟩, .slice none 0 0, .int .i64 0]] (exec_call Try.func26 (by kernel_rfl) rfl _ rfl (by (try simp only [List.map_toArray, List.map_cons, List.map_nil]); first | done | rfl)) ?_
    refine (posternref04_Same.calls 3 1 1 ⟨#[]⟩ rB rcb [] 0 1 1 ⟨#[]⟩ none 0 [] 0 true _ ⟨rfl, by decide, fun h => absurd h (by decide)⟩ (Nat.zero_le _) (Kd.C_nil _ _) (Nat.le_refl _) (by first | rfl | decide | (simp [posternref04_Same.f, posternref04_Same.j0, posternref04_Same.l0]; done))).mono ?_
    rintro e w25 ⟨rfl, hb⟩
    refine ⟨_, rfl, ?_⟩
    simp only [Act.put, List.setIfInBounds_toArray, List.set_cons_zero, List.set_cons_succ]
    have HX25 := Aside0.mk (HX24.out.then_below hb)
    have HT25 := Aside0.mk (HT24.out.ex0 (Ex.of_below hb))
    clear hb
    refine stepV (i := 34) (N := some 102) #[true, true, true, true, true, true, true, true, true, true, true, true, true, true, true, true, true, true, true, true, true, true, true, true, true, true, true, true, true, true, true, true, true, true, true, false, false, false, false, false, false, false, false, false, false, false, false, false, false, false, false, false] rfl (by kernel_rfl) (by decide) rfl (by rfl) (.bool true) (w1 := w25) (by rfl) (by simp only [Act.put, List.setIfInBounds_toArray, List.set_cons_zero, List.set_cons_succ]; rfl) ?_
    refine stepV (i := 35) (N := some 103) #[true, true, true, true, true, true, true, true, true, true, true, true, true, true, true, true, true, true, true, true, true, true, true, true, true, true, true, true, true, true, true, true, true, true, true, true, false, false, false, false, false, false, false, false, false, false, false, false, false, false, false, false] rfl (by kernel_rfl) (by decide) rfl (by rfl) (.bool true) (w1 := w25) (by rfl) (by simp only [Act.put, List.setIfInBounds_toArray, List.set_cons_zero, List.set_cons_succ]; rfl) ?_
    refine stepV (i := 36) (N := some 104) #[true, true, true, true, true, true, true, true, true, true, true, true, true, true, true, true, true, true, true, true, true, true, true, true, true, true, true, true, true, true, true, true, true, true, true, true, true, false, false, false, false, false, false, false, false, false, false, false, false, false, false, false] rfl (by kernel_rfl) (by decide) rfl (by rfl) (.bool true) (w1 := w25) (by rfl) (by simp only [Act.put, List.setIfInBounds_toArray, List.set_cons_zero, List.set_cons_succ]; rfl) ?_
    refine stepV (i := 37) (N := some 105) #[true, true, true, true, true, true, true, true, true, true, true, true, true, true, true, true, true, true, true, true, true, true, true, true, true, true, true, true, true, true, true, true, true, true, true, true, true, true, false, false, false, false, false, false, false, false, false, false, false, false, false, false] rfl (by kernel_rfl) (by decide) rfl (by rfl) (.bool true) (w1 := w25) (by rfl) (by simp only [Act.put, List.setIfInBounds_toArray, List.set_cons_zero, List.set_cons_succ]; rfl) ?_
    refine stepV (i := 38) (N := some 106) #[true, true, true, true, true, true, true, true, true, true, true, true, true, true, true, true, true, true, true, true, true, true, true, true, true, true, true, true, true, true, true, true, true, true, true, true, true, true, true, false, false, false, false, false, false, false, false, false, false, false, false, false] rfl (by kernel_rfl) (by decide) rfl (by rfl) (.bool true) (w1 := w25) (by rfl) (by simp only [Act.put, List.setIfInBounds_toArray, List.set_cons_zero, List.set_cons_succ]; rfl) ?_
    refine stepV (i := 39) (N := some 107) #[true, true, true, true, true, true, true, true, true, true, true, true, true, true, true, true, true, true, true, true, true, true, true, true, true, true, true, true, true, true, true, true, true, true, true, true, true, true, true, true, false, false, false, false, false, false, false, false, false, false, false, false] rfl (by kernel_rfl) (by decide) rfl (by rfl) (.int .i64 0) (w1 := w25) (by rfl) (by simp only [Act.put, List.setIfInBounds_toArray, List.set_cons_zero, List.set_cons_succ]; rfl) ?_
    refine stepV (i := 40) (N := some 108) #[true, true, true, true, true, true, true, true, true, true, true, true, true, true, true, true, true, true, true, true, true, true, true, true, true, true, true, true, true, true, true, true, true, true, true, true, true, true, true, true, true, false, false, false, false, false, false, false, false, false, false, false] rfl (by kernel_rfl) (by decide) rfl (by rfl) (.bool true) (w1 := w25) (by rfl) (by simp only [Act.put, List.setIfInBounds_toArray, List.set_cons_zero, List.set_cons_succ]; rfl) ?_
    refine stepV (i := 41) (N := some 109) #[true, true, true, true, true, true, true, true, true, true, true, true, true, true, true, true, true, true, true, true, true, true, true, true, true, true, true, true, true, true, true, true, true, true, true, true, true, true, true, true, true, true, false, false, false, false, false, false, false, false, false, false] rfl (by kernel_rfl) (by decide) rfl (by rfl) (.bool true) (w1 := w25) (by rfl) (by simp only [Act.put, List.setIfInBounds_toArray, List.set_cons_zero, List.set_cons_succ]; rfl) ?_
    refine stepV (i := 42) (N := some 110) #[true, true, true, true, true, true, true, true, true, true, true, true, true, true, true, true, true, true, true, true, true, true, true, true, true, true, true, true, true, true, true, true, true, true, true, true, true, true, true, true, true, true, true, false, false, false, false, false, false, false, false, false] rfl (by kernel_rfl) (by decide) rfl (by rfl) (.bool true) (w1 := w25) (by rfl) (by simp only [Act.put, List.setIfInBounds_toArray, List.set_cons_zero, List.set_cons_succ]; rfl) ?_
    refine stepV (i := 43) (N := some 111) #[true, true, true, true, true, true, true, true, true, true, true, true, true, true, true, true, true, true, true, true, true, true, true, true, true, true, true, true, true, true, true, true, true, true, true, true, true, true, true, true, true, true, true, true, false, false, false, false, false, false, false, false] rfl (by kernel_rfl) (by decide) rfl (by rfl) (.int .i64 40) (w1 := w25) (by rfl) (by simp only [Act.put, List.setIfInBounds_toArray, List.set_cons_zero, List.set_cons_succ]; rfl) ?_
    refine stepV (i := 44) (N := some 112) #[true, true, true, true, true, true, true, true, true, true, true, true, true, true, true, true, true, true, true, true, true, true, true, true, true, true, true, true, true, true, true, true, true, true, true, true, true, true, true, true, true, true, true, true, true, false, false, false, false, false, false, false] rfl (by kernel_rfl) (by decide) rfl (by rfl) (.bool true) (w1 := w25) (by rfl) (by simp only [Act.put, List.setIfInBounds_toArray, List.set_cons_zero, List.set_cons_succ]; rfl) ?_
    refine stepV (i := 45) (N := some 113) #[true, true, true, true, true, true, true, true, true, true, true, true, true, true, true, true, true, true, true, true, true, true, true, true, true, true, true, true, true, true, true, true, true, true, true, true, true, true, true, true, true, true, true, true, true, true, false, false, false, false, false, false] rfl (by kernel_rfl) (by decide) rfl (by rfl) (.bool true) (w1 := w25) (by rfl) (by simp only [Act.put, List.setIfInBounds_toArray, List.set_cons_zero, List.set_cons_succ]; rfl) ?_
    refine stepV (i := 46) (N := some 114) #[true, true, true, true, true, true, true, true, true, true, true, true, true, true, true, true, true, true, true, true, true, true, true, true, true, true, true, true, true, true, true, true, true, true, true, true, true, true, true, true, true, true, true, true, true, true, true, false, false, false, false, false] rfl (by kernel_rfl) (by decide) rfl (by rfl) (.bool true) (w1 := w25) (by rfl) (by simp only [Act.put, List.setIfInBounds_toArray, List.set_cons_zero, List.set_cons_succ]; rfl) ?_
    refine stepV (i := 47) (N := some 115) #[true, true, true, true, true, true, true, true, true, true, true, true, true, true, true, true, true, true, true, true, true, true, true, true, true, true, true, true, true, true, true, true, true, true, true, true, true, true, true, true, true, true, true, true, true, true, true, true, false, false, false, false] rfl (by kernel_rfl) (by decide) rfl (by rfl) (.pointer (some ⟨w13.heap.size + 2, 0, none⟩)) (w1 := w25) (by rfl) (by simp only [Act.put, List.setIfInBounds_toArray, List.set_cons_zero, List.set_cons_succ]; rfl) ?_
    refine stepC (i := 48) (N := some 116) #[true, true, true, true, true, true, true, true, true, true, true, true, true, true, true, true, true, true, true, true, true, true, true, true, true, true, true, true, true, true, true, true, true, true, true, true, true, true, true, true, true, true, true, true, true, true, true, true, true, false, false, false] rfl (by kernel_rfl) (by decide) rfl (by rfl) 17 #[.pointer (some ⟨w13.heap.size + 2, 0, none⟩)] (exec_call Try.func17 (by kernel_rfl) rfl _ rfl (by (try simp only [List.map_toArray, List.map_cons, List.map_nil]); first | done | rfl)) ?_
    refine Calls.mono (show Calls Try.prog 17 #[.pointer (some ⟨w13.heap.size + 2, 0, none⟩)] w25 (fun e w' => e = .returned (.int .i64 1) ∧ w' = w25) from len_calls _ _ _ _ _ _ _ HT25.out) ?_
    rintro e w26 ⟨rfl, rfl⟩
    refine ⟨_, rfl, ?_⟩
    simp only [Act.put, List.setIfInBounds_toArray, List.set_cons_zero, List.set_cons_succ]
    refine stepV (i := 49) (N := some 117) #[true, true, true, true, true, true, true, true, true, true, true, true, true, true, true, true, true, true, true, true, true, true, true, true, true, true, true, true, true, true, true, true, true, true, true, true, true, true, true, true, true, true, true, true, true, true, true, true, true, true, false, false] rfl (by kernel_rfl) (by decide) rfl (by rfl) (.bool true) (w1 := w26) (by rfl) (by simp only [Act.put, List.setIfInBounds_toArray, List.set_cons_zero, List.set_cons_succ]; rfl) ?_
    refine stepV (i := 50) (N := some 118) #[true, true, true, true, true, true, true, true, true, true, true, true, true, true, true, true, true, true, true, true, true, true, true, true, true, true, true, true, true, true, true, true, true, true, true, true, true, true, true, true, true, true, true, true, true, true, true, true, true, true, true, false] rfl (by kernel_rfl) (by decide) rfl (by rfl) (.bool true) (w1 := w26) (by rfl) (by simp only [Act.put, List.setIfInBounds_toArray, List.set_cons_zero, List.set_cons_succ]; rfl) ?_
    refine stepV (i := 51) (N := some 0) #[true, true, true, true, true, true, true, true, true, true, true, true, true, true, true, true, true, true, true, true, true, true, true, true, true, true, true, true, true, true, true, true, true, true, true, true, true, true, true, true, true, true, true, true, true, true, true, true, true, true, true, true] rfl (by kernel_rfl) (by decide) rfl (by rfl) (.bool true) (w1 := w26) (by rfl) (by simp only [Act.put, List.setIfInBounds_toArray, List.set_cons_zero, List.set_cons_succ]; rfl) ?_
    refine done_ (by kernel_rfl) ?_
    go_wp2_with fail
    go_ret
    exact ⟨rfl, HX25.out⟩
  · refine (number_calls 1 _).mono ?_
    rintro e w24 ⟨rfl, hx⟩
    refine ⟨_, rfl, ?_⟩
    simp only [Act.put, List.setIfInBounds_toArray, List.set_cons_zero, List.set_cons_succ]
    have HX24 := Aside0.mk (HX.out.drew.trans hx (fun _ h => h.elim))
    have HO24 := Aside0.mk (hx.blk (blk_drew HO.out) (fun h => h))
    have HT24 := Aside0.mk (HT.out.ex0 (((Ex.refl _ _).drew).trans hx (fun _ h => h.elim)))
    clear hx
    have qc0 := (blk_cell HO24.out 0).trans rfl
    have qc1 := (blk_cell HO24.out 1).trans rfl
    have qc2 := (blk_cell HO24.out 2).trans rfl
    have qc3 := (blk_cell HO24.out 3).trans rfl
    have qc4 := (blk_cell HO24.out 4).trans rfl
    have ql := lt_of_blk HO24.out
    refine stepV (i := 31) (N := some 99) #[true, true, true, true, true, true, true, true, true, true, true, true, true, true, true, true, true, true, true, true, true, true, true, true, true, true, true, true, true, true, true, true, true, false, false, false, false, false, false, false, false, false, false, false, false, false, false, false, false, false, false, false] rfl (by kernel_rfl) (by decide) rfl (by rfl) (.agg #[.int .u8 (num 1).f0, .int .i64 (num 1).f1, .string (num 1).f2, .slice rB (num 1).f3.length rcb, .int .i64 (num 1).f4]) (w1 := w24) (by go_simp) (by simp only [Act.put, List.setIfInBounds_toArray, List.set_cons_zero, List.set_cons_succ]; rfl) ?_
    refine stepC (i := 33) (N := some 101) #[true, true, true, true, true, true, true, true, true, true, true, true, true, true, true, true, true, true, true, true, true, true, true, true, true, true, true, true, true, true, true, true, true, true, false, false, false, false, false, false, false, false, false, false, false, false, false, false, false, false, false, false] rfl (by kernel_rfl) (by decide) rfl (by rfl) 26 #[.agg #[.int .u8 (num 1).f0, .int .i64 (num 1).f1, .string (num 1).f2, .slice rB (num 1).f3.length rcb, .int .i64 (num 1).f4], .agg #[.int .u8 1, .int .i64 1, .string ⟨#[]⟩, .slice none 0 0, .int .i64 0]] (exec_call Try.func26 (by kernel_rfl) rfl _ rfl (by (try simp only [List.map_toArray, List.map_cons, List.map_nil]); first | done | rfl)) ?_
    refine (posternref04_Same.calls 3 1 1 ⟨#[]⟩ rB rcb [] 0 1 1 ⟨#[]⟩ none 0 [] 0 true _ ⟨rfl, by decide, fun h => absurd h (by decide)⟩ (Nat.zero_le _) (Kd.C_nil _ _) (Nat.le_refl _) (by first | rfl | decide | (simp [posternref04_Same.f, posternref04_Same.j0, posternref04_Same.l0]; done))).mono ?_
    rintro e w25 ⟨rfl, hb⟩
    refine ⟨_, rfl, ?_⟩
    simp only [Act.put, List.setIfInBounds_toArray, List.set_cons_zero, List.set_cons_succ]
    have HX25 := Aside0.mk (HX24.out.then_below hb)
    have HT25 := Aside0.mk (HT24.out.ex0 (Ex.of_below hb))
    clear hb
    refine stepV (i := 34) (N := some 102) #[true, true, true, true, true, true, true, true, true, true, true, true, true, true, true, true, true, true, true, true, true, true, true, true, true, true, true, true, true, true, true, true, true, true, true, false, false, false, false, false, false, false, false, false, false, false, false, false, false, false, false, false] rfl (by kernel_rfl) (by decide) rfl (by rfl) (.bool true) (w1 := w25) (by rfl) (by simp only [Act.put, List.setIfInBounds_toArray, List.set_cons_zero, List.set_cons_succ]; rfl) ?_
    refine stepV (i := 35) (N := some 103) #[true, true, true, true, true, true, true, true, true, true, true, true, true, true, true, true, true, true, true, true, true, true, true, true, true, true, true, true, true, true, true, true, true, true, true, true, false, false, false, false, false, false, false, false, false, false, false, false, false, false, false, false] rfl (by kernel_rfl) (by decide) rfl (by rfl) (.bool true) (w1 := w25) (by rfl) (by simp only [Act.put, List.setIfInBounds_toArray, List.set_cons_zero, List.set_cons_succ]; rfl) ?_
    refine stepV (i := 36) (N := some 104) #[true, true, true, true, true, true, true, true, true, true, true, true, true, true, true, true, true, true, true, true, true, true, true, true, true, true, true, true, true, true, true, true, true, true, true, true, true, false, false, false, false, false, false, false, false, false, false, false, false, false, false, false] rfl (by kernel_rfl) (by decide) rfl (by rfl) (.bool true) (w1 := w25) (by rfl) (by simp only [Act.put, List.setIfInBounds_toArray, List.set_cons_zero, List.set_cons_succ]; rfl) ?_
    refine stepV (i := 37) (N := some 105) #[true, true, true, true, true, true, true, true, true, true, true, true, true, true, true, true, true, true, true, true, true, true, true, true, true, true, true, true, true, true, true, true, true, true, true, true, true, true, false, false, false, false, false, false, false, false, false, false, false, false, false, false] rfl (by kernel_rfl) (by decide) rfl (by rfl) (.bool true) (w1 := w25) (by rfl) (by simp only [Act.put, List.setIfInBounds_toArray, List.set_cons_zero, List.set_cons_succ]; rfl) ?_
    refine stepV (i := 38) (N := some 106) #[true, true, true, true, true, true, true, true, true, true, true, true, true, true, true, true, true, true, true, true, true, true, true, true, true, true, true, true, true, true, true, true, true, true, true, true, true, true, true, false, false, false, false, false, false, false, false, false, false, false, false, false] rfl (by kernel_rfl) (by decide) rfl (by rfl) (.bool true) (w1 := w25) (by rfl) (by simp only [Act.put, List.setIfInBounds_toArray, List.set_cons_zero, List.set_cons_succ]; rfl) ?_
    refine stepV (i := 39) (N := some 107) #[true, true, true, true, true, true, true, true, true, true, true, true, true, true, true, true, true, true, true, true, true, true, true, true, true, true, true, true, true, true, true, true, true, true, true, true, true, true, true, true, false, false, false, false, false, false, false, false, false, false, false, false] rfl (by kernel_rfl) (by decide) rfl (by rfl) (.int .i64 0) (w1 := w25) (by rfl) (by simp only [Act.put, List.setIfInBounds_toArray, List.set_cons_zero, List.set_cons_succ]; rfl) ?_
    refine stepV (i := 40) (N := some 108) #[true, true, true, true, true, true, true, true, true, true, true, true, true, true, true, true, true, true, true, true, true, true, true, true, true, true, true, true, true, true, true, true, true, true, true, true, true, true, true, true, true, false, false, false, false, false, false, false, false, false, false, false] rfl (by kernel_rfl) (by decide) rfl (by rfl) (.bool true) (w1 := w25) (by rfl) (by simp only [Act.put, List.setIfInBounds_toArray, List.set_cons_zero, List.set_cons_succ]; rfl) ?_
    refine stepV (i := 41) (N := some 109) #[true, true, true, true, true, true, true, true, true, true, true, true, true, true, true, true, true, true, true, true, true, true, true, true, true, true, true, true, true, true, true, true, true, true, true, true, true, true, true, true, true, true, false, false, false, false, false, false, false, false, false, false] rfl (by kernel_rfl) (by decide) rfl (by rfl) (.bool true) (w1 := w25) (by rfl) (by simp only [Act.put, List.setIfInBounds_toArray, List.set_cons_zero, List.set_cons_succ]; rfl) ?_
    refine stepV (i := 42) (N := some 110) #[true, true, true, true, true, true, true, true, true, true, true, true, true, true, true, true, true, true, true, true, true, true, true, true, true, true, true, true, true, true, true, true, true, true, true, true, true, true, true, true, true, true, true, false, false, false, false, false, false, false, false, false] rfl (by kernel_rfl) (by decide) rfl (by rfl) (.bool true) (w1 := w25) (by rfl) (by simp only [Act.put, List.setIfInBounds_toArray, List.set_cons_zero, List.set_cons_succ]; rfl) ?_
    refine stepV (i := 43) (N := some 111) #[true, true, true, true, true, true, true, true, true, true, true, true, true, true, true, true, true, true, true, true, true, true, true, true, true, true, true, true, true, true, true, true, true, true, true, true, true, true, true, true, true, true, true, true, false, false, false, false, false, false, false, false] rfl (by kernel_rfl) (by decide) rfl (by rfl) (.int .i64 40) (w1 := w25) (by rfl) (by simp only [Act.put, List.setIfInBounds_toArray, List.set_cons_zero, List.set_cons_succ]; rfl) ?_
    refine stepV (i := 44) (N := some 112) #[true, true, true, true, true, true, true, true, true, true, true, true, true, true, true, true, true, true, true, true, true, true, true, true, true, true, true, true, true, true, true, true, true, true, true, true, true, true, true, true, true, true, true, true, true, false, false, false, false, false, false, false] rfl (by kernel_rfl) (by decide) rfl (by rfl) (.bool true) (w1 := w25) (by rfl) (by simp only [Act.put, List.setIfInBounds_toArray, List.set_cons_zero, List.set_cons_succ]; rfl) ?_
    refine stepV (i := 45) (N := some 113) #[true, true, true, true, true, true, true, true, true, true, true, true, true, true, true, true, true, true, true, true, true, true, true, true, true, true, true, true, true, true, true, true, true, true, true, true, true, true, true, true, true, true, true, true, true, true, false, false, false, false, false, false] rfl (by kernel_rfl) (by decide) rfl (by rfl) (.bool true) (w1 := w25) (by rfl) (by simp only [Act.put, List.setIfInBounds_toArray, List.set_cons_zero, List.set_cons_succ]; rfl) ?_
    refine stepV (i := 46) (N := some 114) #[true, true, true, true, true, true, true, true, true, true, true, true, true, true, true, true, true, true, true, true, true, true, true, true, true, true, true, true, true, true, true, true, true, true, true, true, true, true, true, true, true, true, true, true, true, true, true, false, false, false, false, false] rfl (by kernel_rfl) (by decide) rfl (by rfl) (.bool true) (w1 := w25) (by rfl) (by simp only [Act.put, List.setIfInBounds_toArray, List.set_cons_zero, List.set_cons_succ]; rfl) ?_
    refine stepV (i := 47) (N := some 115) #[true, true, true, true, true, true, true, true, true, true, true, true, true, true, true, true, true, true, true, true, true, true, true, true, true, true, true, true, true, true, true, true, true, true, true, true, true, true, true, true, true, true, true, true, true, true, true, true, false, false, false, false] rfl (by kernel_rfl) (by decide) rfl (by rfl) (.pointer (some ⟨w13.heap.size + 2, 0, none⟩)) (w1 := w25) (by rfl) (by simp only [Act.put, List.setIfInBounds_toArray, List.set_cons_zero, List.set_cons_succ]; rfl) ?_
    refine stepC (i := 48) (N := some 116) #[true, true, true, true, true, true, true, true, true, true, true, true, true, true, true, true, true, true, true, true, true, true, true, true, true, true, true, true, true, true, true, true, true, true, true, true, true, true, true, true, true, true, true, true, true, true, true, true, true, false, false, false] rfl (by kernel_rfl) (by decide) rfl (by rfl) 17 #[.pointer (some ⟨w13.heap.size + 2, 0, none⟩)] (exec_call Try.func17 (by kernel_rfl) rfl _ rfl (by (try simp only [List.map_toArray, List.map_cons, List.map_nil]); first | done | rfl)) ?_
    refine Calls.mono (show Calls Try.prog 17 #[.pointer (some ⟨w13.heap.size + 2, 0, none⟩)] w25 (fun e w' => e = .returned (.int .i64 1) ∧ w' = w25) from len_calls _ _ _ _ _ _ _ HT25.out) ?_
    rintro e w26 ⟨rfl, rfl⟩
    refine ⟨_, rfl, ?_⟩
    simp only [Act.put, List.setIfInBounds_toArray, List.set_cons_zero, List.set_cons_succ]
    refine stepV (i := 49) (N := some 117) #[true, true, true, true, true, true, true, true, true, true, true, true, true, true, true, true, true, true, true, true, true, true, true, true, true, true, true, true, true, true, true, true, true, true, true, true, true, true, true, true, true, true, true, true, true, true, true, true, true, true, false, false] rfl (by kernel_rfl) (by decide) rfl (by rfl) (.bool true) (w1 := w26) (by rfl) (by simp only [Act.put, List.setIfInBounds_toArray, List.set_cons_zero, List.set_cons_succ]; rfl) ?_
    refine stepV (i := 50) (N := some 118) #[true, true, true, true, true, true, true, true, true, true, true, true, true, true, true, true, true, true, true, true, true, true, true, true, true, true, true, true, true, true, true, true, true, true, true, true, true, true, true, true, true, true, true, true, true, true, true, true, true, true, true, false] rfl (by kernel_rfl) (by decide) rfl (by rfl) (.bool true) (w1 := w26) (by rfl) (by simp only [Act.put, List.setIfInBounds_toArray, List.set_cons_zero, List.set_cons_succ]; rfl) ?_
    refine stepV (i := 51) (N := some 0) #[true, true, true, true, true, true, true, true, true, true, true, true, true, true, true, true, true, true, true, true, true, true, true, true, true, true, true, true, true, true, true, true, true, true, true, true, true, true, true, true, true, true, true, true, true, true, true, true, true, true, true, true] rfl (by kernel_rfl) (by decide) rfl (by rfl) (.bool true) (w1 := w26) (by rfl) (by simp only [Act.put, List.setIfInBounds_toArray, List.set_cons_zero, List.set_cons_succ]; rfl) ?_
    refine done_ (by kernel_rfl) ?_
    go_wp2_with fail
    go_ret
    exact ⟨rfl, HX25.out⟩
end Go.Proofs.Ythkemcekcfccpaa.PBrandCompares
end
section
namespace Go.Proofs.Ythkemcekcfccpaa.PBrandCompares
open Go.RowKit Go.Proofs.YthkemcekcfccpaaW.PrintWords Go.Proofs.YthkemcekcfccpaaW.PrintLast Go.Proofs.YthkemcekcfccpaaW.PrintMore
open Go.Proofs.Ythkemcekcfccpaa.GBrandCompares
set_option linter.unusedVariables false
set_option linter.unusedSimpArgs false
theorem putObj_far {w : World} {b l : Nat} {o : Obj} (h : w.heap[b]? = some o) (hne : b ≠ l) (o' : Obj) : (w.putObj l o').heap[b]? = some o := by
  simp only [World.putObj, Array.getElem?_setIfInBounds]
  rw [if_neg (Ne.symm hne)]; exact h
theorem ex_putObj {S : Nat → Prop} {w w1 : World} (h : Ex S w w1) {l : Nat} (hl : S l ∨ w.heap.size ≤ l) (o : Obj) : Ex S w (w1.putObj l o) :=
  h.trans (S2 := fun b => b = l) ⟨rfl, rfl, rfl, by simp [World.putObj], fun b _ hn => by simp only [World.putObj, Array.getElem?_setIfInBounds]; rw [if_neg (Ne.symm hn)]⟩ (fun b hb => hb ▸ hl)
theorem ne_of_blk {w : World} {a b : Nat} {o o' : Obj} (h : w.heap[a]? = some o) (h' : w.heap[b]? = some o') (hne : o ≠ o') : a ≠ b := by
  intro e; subst e; rw [h] at h'; exact hne (Option.some.inj h')
theorem results_cellv {fn : Func} {p : Tmp} (h : fn.results = #[.cell p 4]) (tmps : Array Value) (w : World) (g : Nat) (b : Bool) (fr : Nat × Nat) (hp : tmps.getD p undef = .pointer (some ⟨g, 0, none⟩)) (hg : w.heap[g]? = some (.cells #[.bool b] 4 fr)) :
    (results fn tmps).run Try.prog w = .ok (.bool b) w := by
  have hp' : tmps[p]?.getD undef = .pointer (some ⟨g, 0, none⟩) := by simpa using hp
  have hc : w.cell? ⟨g, 0, none⟩ = some (.bool b) := cell_of_row w g 0 _ _ _ hg
  have hu := Try.underlying4
  simp [results, h, hp', asAddr, go_sem, hc]
theorem same_zero (w : World) : Calls Try.prog 26 #[.agg #[.int .u8 0, .int .i64 0, .string ⟨#[]⟩, .slice none 0 0, .int .i64 0], .agg #[.int .u8 0, .int .i64 0, .string ⟨#[]⟩, .slice none 0 0, .int .i64 0]] w fun e w' => e = .returned (.bool true) ∧ Below w.heap.size w w' :=
  posternref04_Same.calls 3 0 0 ⟨#[]⟩ none 0 [] 0 0 0 ⟨#[]⟩ none 0 [] 0 true w (Kd.C_nil _ _) (Nat.le_refl _) (Kd.C_nil _ _) (Nat.le_refl _) (by first | rfl | decide | (simp [posternref04_Same.f, posternref04_Same.j0, posternref04_Same.l0]; done))
end Go.Proofs.Ythkemcekcfccpaa.PBrandCompares
end
