/-
  The law BrandLists, walked.
-/
import Derived.Test.YthkemcekcfccpaaBrandComparesR4M4
namespace Go.Proofs.Ythkemcekcfccpaa.PBrandCompares
open Go.RowKit Go.Proofs.YthkemcekcfccpaaW.PrintWords Go.Proofs.YthkemcekcfccpaaW.PrintLast Go.Proofs.YthkemcekcfccpaaW.PrintMore
open Go.Proofs.Ythkemcekcfccpaa.GBrandCompares
set_option linter.unusedVariables false
set_option linter.unusedSimpArgs false

set_option maxHeartbeats 40000000 in
set_option maxRecDepth 100000 in
theorem lists_walk (K V : List S27) (A B : Option Addr) (ca cb : Nat) (w : World) (hF : Kd.F k27 w (fun k => k < w.heap.size) A K.length K) (hG : Kd.F k27 w (fun k => k < w.heap.size) B V.length V) (hK : ∀ x ∈ K, Wf x) (hV : ∀ x ∈ V, Wf x) :
    Calls Try.prog 5 #[.slice A K.length ca, .slice B V.length cb] w fun e w' => e = .returned (.bool true) ∧ Ex (fun _ => False) w w' := by
  have HF := Aside0.mk hF
  have HG := Aside0.mk hG
  have HK := Aside0.mk (And.intro hK hV)
  have hkm := Kd.F_max hF
  have hvm := Kd.F_max hG
  clear hF hG hK hV
  by_cases h100 : 100 < K.length
  · have e1 : decide ((K.length : Int) > 100) = true := by simp; omega
    go_enter Try.func5, Try.ntmps5
    go_wp2_with fail
    refine (new_calls _).mono ?_
    rintro e w1 ⟨rfl, rfl⟩
    go_wp2_with fail
    refine (lives_calls _).mono ?_
    rintro e w2 ⟨rfl, hx⟩
    have HX := Aside0.mk (((((Ex.refl (fun _ => False) w).alloc _).alloc _).alloc _).trans hx (fun _ h => h.elim))
    clear hx
    go_wp2
    go_ret
    exact ⟨rfl, HX.out⟩
  have e1 : decide ((K.length : Int) > 100) = false := by simp; omega
  by_cases hlt : V.length < K.length
  · have e2 : decide (V.length < K.length) = true := by simp; omega
    go_enter Try.func5, Try.ntmps5
    go_wp2_with fail
    refine (new_calls _).mono ?_
    rintro e w1 ⟨rfl, rfl⟩
    go_wp2_with fail
    refine (lives_calls _).mono ?_
    rintro e w2 ⟨rfl, hx⟩
    have HX := Aside0.mk (((((Ex.refl (fun _ => False) w).alloc _).alloc _).alloc _).trans hx (fun _ h => h.elim))
    clear hx
    go_wp2
    go_ret
    exact ⟨rfl, HX.out⟩
  have e2 : decide (V.length < K.length) = false := by simp; omega
  go_enter Try.func5, Try.ntmps5
  go_wp2_with fail
  refine (new_calls _).mono ?_
  rintro e w1 ⟨rfl, rfl⟩
  have HX1 := Aside0.mk ((((Ex.refl (fun _ => False) w).alloc (.map #[] 0)).alloc (.map #[] 0)).alloc (.cells #[.map (some w.heap.size), .map (some (w.heap.size + 1)), .int .i64 0] 66))
  have HT1 := Aside0.mk (tab_new w).bound
  go_wp2_with fail
  clear e1 e2
  go_loopg [6, 7] K.length (fun m v6 v7 wr => ∃ (i : Nat) (es : List El) (rows : List Row) (came : Nat) (T : Nat → Prop), v7 = .int .i64 i ∧ Aside0 (i + m = K.length) ∧ Aside0 (Head K V w (w.heap.size + 2) w.heap.size (w.heap.size + 1) i v6 es rows came T wr))
  case atStart =>
    exact ⟨0, [], [], 0, _, rfl, ⟨by omega⟩, ⟨World.ownsRow_nil _ _ _ _, by simp, HT1.out, fun b hb => ⟨hb.1, hb.2, by simp [Value.ownBlock]⟩, Puts.start K V, rfl, HX1.out⟩⟩
  case round =>
    obtain ⟨i, es, rows, came, T, rfl, HM, HH⟩ := hrel
    by_cases hi : i < K.length
    · have hiv : i < V.length := by omega
      have HFr := Aside0.mk (ex_F HH.out.grown HF.out (fun _ _ h => h))
      have HGr := Aside0.mk (ex_F HH.out.grown HG.out (fun _ _ h => h))
      obtain ⟨ad, A3, c3, hA, hc3, hF3, hcl⟩ := at_S27 HFr.out i hi
      obtain ⟨bd, B3, d3, hB, hd3, hG3, hdl⟩ := at_S27 HGr.out i hiv
      have hkx := rd_get hi
      have hvx := rd_get hiv
      have hWk := HK.out.1 _ (rd_mem hi)
      have hWv := HK.out.2 _ (rd_mem hiv)
      generalize rd_T27 K (i : Int) = kx at hc3 hF3 hcl hkx hWk
      generalize rd_T27 V (i : Int) = vx at hd3 hG3 hdl hvx hWv
      have HA := Aside0.mk hA
      have HBB := Aside0.mk hB
      have HCL := Aside0.mk hcl
      have HDL := Aside0.mk hdl
      have HF3 := Aside0.mk hF3
      have HG3 := Aside0.mk hG3
      have HKX := Aside0.mk (And.intro hkx hvx)
      have HW := Aside0.mk (And.intro hWk hWv)
      have HC3 := Aside0.mk (And.intro hc3 hd3)
      clear hA hB hcl hdl hF3 hG3 hkx hvx hWk hWv hc3 hd3
      have hii : (i : Int) < (K.length : Int) := by omega
      have hiv2 : (i : Int) < (V.length : Int) := by omega
      have hi0 : (0 : Int) ≤ (i : Int) := by omega
      have hi100 : i < 100 := by omega
      have hAe := HA.out
      have hBe := HBB.out
      have hcame : came < 1000000000 := by have := HH.out.puts.few; omega
      obtain ⟨M, cm, hv6, hcm, hmet⟩ := own_slice HH.out.met
      have HM6 := Aside0.mk (And.intro hv6 hmet)
      subst hAe hBe
      clear hmet hv6
      have HKL := Aside0.mk (show i < K.length ∧ K.length ≤ 100 from ⟨hi, by omega⟩)
      have hes : es.length = rows.length := by have := congrArg List.length HH.out.keys; simpa using this
      have HES := Aside0.mk hes
      clear hes
      rcases put_cases kx vx rows with hcase | ⟨hmk, hmv, hcase⟩ | ⟨hmk, hmv, m, hmo, hmkey, hnew⟩ | ⟨hmk, hmv, m, j, r, hmo, hmkey, hrj, hrm⟩
      · skip
        have HCS := Aside0.mk (show (mayV kx = false ∨ mayV vx = false) ∨ ¬ KeyV kx from .inl hcase)
        have HCC := Aside0.mk hcase
        clear hcase
        have HLT := Aside0.mk (show w.heap.size + 2 < wr.heap.size from lt_of_blk HH.out.tab.hg)
        go_upto_region 8 with (fail)
        go_cut [8, 9, 10] from 47 to 60 (fun s8 s9 s10 wx => s9 = .bool false ∧ s10 = .int .i64 2 ∧ Aside0 (Ex (fun _ => False) wr wx))
        case first =>
          refine region_by 15 [12, 13] (specL [Is (.pointer (some ⟨(w.heap.size + 2), 0, none⟩)), Is (.slice (some ad) K.length ca), Is (.int .i64 i), Is (.pointer (some (ad.add (i * 5)))), Is (.agg #[.int .u8 kx.f0, .int .i64 kx.f1, .string kx.f2, .slice A3 kx.f3.length c3, .int .i64 kx.f4]), Is (.slice (some bd) V.length cb), Is (.int .i64 i), Is (.pointer (some (bd.add (i * 5)))), Is (.agg #[.int .u8 vx.f0, .int .i64 vx.f1, .string vx.f2, .slice B3 vx.f3.length d3, .int .i64 vx.f4]), Is (.tuple #[.agg #[.int .u8 0, .int .i64 0, .string ⟨#[]⟩, .slice none 0 0, .int .i64 0], .bool false, .int .i64 2]), Is (.tuple #[.agg #[.int .u8 0, .int .i64 0, .string ⟨#[]⟩, .slice none 0 0, .int .i64 0], .bool false, .int .i64 2]), Is (.agg #[.int .u8 0, .int .i64 0, .string ⟨#[]⟩, .slice none 0 0, .int .i64 0]), Is (.bool false), Is (.int .i64 2), At wr.heap.size ZB]) (by decide) (by decide) (by kernel_rfl) (by kernel_rfl) (stab_all (stab_cons (stab_is _) (stab_cons (stab_is _) (stab_cons (stab_is _) (stab_cons (stab_is _) (stab_cons (stab_is _) (stab_cons (stab_is _) (stab_cons (stab_is _) (stab_cons (stab_is _) (stab_cons (stab_is _) (stab_cons (stab_is _) (stab_cons (stab_is _) (stab_cons (stab_is _) (stab_cons (stab_is _) (stab_cons (stab_is _) (stab_cons (stab_at _ _) (stab_nil))))))))))))))))) ?_ ?_ ?_
          · intro i hi hnl
            obtain rfl | rfl | rfl | rfl | rfl | rfl | rfl | rfl | rfl | rfl | rfl | rfl | rfl | rfl | rfl : i = 0 ∨ i = 1 ∨ i = 2 ∨ i = 3 ∨ i = 4 ∨ i = 5 ∨ i = 6 ∨ i = 7 ∨ i = 8 ∨ i = 9 ∨ i = 10 ∨ i = 11 ∨ i = 12 ∨ i = 13 ∨ i = 14 := by omega
            · intro o ho ρ yl w1 hx hc hf hgl hp hb
              simp only [List.getElem?_toArray, List.getElem?_cons_succ, List.getElem?_cons_zero, Option.some.injEq] at ho
              subst ho
              have hx := ((Ex.refl (fun _ => False) wr).drew).trans hx (fun _ h => h.elim)
              have b5 := hb 5 (by kernel_rfl)
              clear hp hb
              refine wantL rfl ⟨.pointer (some ⟨(w.heap.size + 2), 0, none⟩), w1, ?_, Ex.refl _ _, rfl⟩
              go_simp
            · intro o ho ρ yl w1 hx hc hf hgl hp hb
              simp only [List.getElem?_toArray, List.getElem?_cons_succ, List.getElem?_cons_zero, Option.some.injEq] at ho
              subst ho
              have hx := ((Ex.refl (fun _ => False) wr).drew).trans hx (fun _ h => h.elim)
              have b0 := hb 0 (by kernel_rfl)
              clear hp hb
              refine wantL rfl ⟨.slice (some ad) K.length ca, w1, ?_, Ex.refl _ _, rfl⟩
              go_simp
            · intro o ho ρ yl w1 hx hc hf hgl hp hb
              simp only [List.getElem?_toArray, List.getElem?_cons_succ, List.getElem?_cons_zero, Option.some.injEq] at ho
              subst ho
              have hx := ((Ex.refl (fun _ => False) wr).drew).trans hx (fun _ h => h.elim)
              have b7 := hb 7 (by kernel_rfl)
              clear hp hb
              refine wantL rfl ⟨.int .i64 i, w1, ?_, Ex.refl _ _, rfl⟩
              go_simp
            · intro o ho ρ yl w1 hx hc hf hgl hp hb
              simp only [List.getElem?_toArray, List.getElem?_cons_succ, List.getElem?_cons_zero, Option.some.injEq] at ho
              subst ho
              have hx := ((Ex.refl (fun _ => False) wr).drew).trans hx (fun _ h => h.elim)
              obtain ⟨v1, s1, e1, y1⟩ := hp 1 (by kernel_rfl)
              have e1 := e1 49 rfl
              obtain rfl : v1 = (.slice (some ad) K.length ca) := s1
              clear y1
              obtain ⟨v2, s2, e2, y2⟩ := hp 2 (by kernel_rfl)
              have e2 := e2 50 rfl
              obtain rfl : v2 = (.int .i64 i) := s2
              clear y2
              clear hp hb
              refine wantL rfl ⟨.pointer (some (ad.add (i * 5))), w1, ?_, Ex.refl _ _, rfl⟩
              go_simp
            · intro o ho ρ yl w1 hx hc hf hgl hp hb
              simp only [List.getElem?_toArray, List.getElem?_cons_succ, List.getElem?_cons_zero, Option.some.injEq] at ho
              subst ho
              have hx := ((Ex.refl (fun _ => False) wr).drew).trans hx (fun _ h => h.elim)
              obtain ⟨v3, s3, e3, y3⟩ := hp 3 (by kernel_rfl)
              have e3 := e3 51 rfl
              obtain rfl : v3 = (.pointer (some (ad.add (i * 5)))) := s3
              clear y3
              clear hp hb
              obtain ⟨h0, h1, h2, h3, h4⟩ := HCL.out _ w1 hx (fun _ _ h => h)
              refine wantL rfl ⟨.agg #[.int .u8 kx.f0, .int .i64 kx.f1, .string kx.f2, .slice A3 kx.f3.length c3, .int .i64 kx.f4], w1, ?_, Ex.refl _ _, rfl⟩
              go_simp
            · intro o ho ρ yl w1 hx hc hf hgl hp hb
              simp only [List.getElem?_toArray, List.getElem?_cons_succ, List.getElem?_cons_zero, Option.some.injEq] at ho
              subst ho
              have hx := ((Ex.refl (fun _ => False) wr).drew).trans hx (fun _ h => h.elim)
              have b1 := hb 1 (by kernel_rfl)
              clear hp hb
              refine wantL rfl ⟨.slice (some bd) V.length cb, w1, ?_, Ex.refl _ _, rfl⟩
              go_simp
            · intro o ho ρ yl w1 hx hc hf hgl hp hb
              simp only [List.getElem?_toArray, List.getElem?_cons_succ, List.getElem?_cons_zero, Option.some.injEq] at ho
              subst ho
              have hx := ((Ex.refl (fun _ => False) wr).drew).trans hx (fun _ h => h.elim)
              have b7 := hb 7 (by kernel_rfl)
              clear hp hb
              refine wantL rfl ⟨.int .i64 i, w1, ?_, Ex.refl _ _, rfl⟩
              go_simp
            · intro o ho ρ yl w1 hx hc hf hgl hp hb
              simp only [List.getElem?_toArray, List.getElem?_cons_succ, List.getElem?_cons_zero, Option.some.injEq] at ho
              subst ho
              have hx := ((Ex.refl (fun _ => False) wr).drew).trans hx (fun _ h => h.elim)
              obtain ⟨v5, s5, e5, y5⟩ := hp 5 (by kernel_rfl)
              have e5 := e5 53 rfl
              obtain rfl : v5 = (.slice (some bd) V.length cb) := s5
              clear y5
              obtain ⟨v6, s6, e6, y6⟩ := hp 6 (by kernel_rfl)
              have e6 := e6 54 rfl
              obtain rfl : v6 = (.int .i64 i) := s6
              clear y6
              clear hp hb
              refine wantL rfl ⟨.pointer (some (bd.add (i * 5))), w1, ?_, Ex.refl _ _, rfl⟩
              go_simp
            · intro o ho ρ yl w1 hx hc hf hgl hp hb
              simp only [List.getElem?_toArray, List.getElem?_cons_succ, List.getElem?_cons_zero, Option.some.injEq] at ho
              subst ho
              have hx := ((Ex.refl (fun _ => False) wr).drew).trans hx (fun _ h => h.elim)
              obtain ⟨v7, s7, e7, y7⟩ := hp 7 (by kernel_rfl)
              have e7 := e7 55 rfl
              obtain rfl : v7 = (.pointer (some (bd.add (i * 5)))) := s7
              clear y7
              clear hp hb
              obtain ⟨h0, h1, h2, h3, h4⟩ := HDL.out _ w1 hx (fun _ _ h => h)
              refine wantL rfl ⟨.agg #[.int .u8 vx.f0, .int .i64 vx.f1, .string vx.f2, .slice B3 vx.f3.length d3, .int .i64 vx.f4], w1, ?_, Ex.refl _ _, rfl⟩
              go_simp
            · intro o ho ρ yl w1 hx hc hf hgl hp hb
              simp only [List.getElem?_toArray, List.getElem?_cons_succ, List.getElem?_cons_zero, Option.some.injEq] at ho
              subst ho
              have hx := ((Ex.refl (fun _ => False) wr).drew).trans hx (fun _ h => h.elim)
              obtain ⟨v0, s0, e0, y0⟩ := hp 0 (by kernel_rfl)
              have e0 := e0 48 rfl
              obtain rfl : v0 = (.pointer (some ⟨(w.heap.size + 2), 0, none⟩)) := s0
              clear y0
              obtain ⟨v4, s4, e4, y4⟩ := hp 4 (by kernel_rfl)
              have e4 := e4 52 rfl
              obtain rfl : v4 = (.agg #[.int .u8 kx.f0, .int .i64 kx.f1, .string kx.f2, .slice A3 kx.f3.length c3, .int .i64 kx.f4]) := s4
              clear y4
              obtain ⟨v8, s8, e8, y8⟩ := hp 8 (by kernel_rfl)
              have e8 := e8 56 rfl
              obtain rfl : v8 = (.agg #[.int .u8 vx.f0, .int .i64 vx.f1, .string vx.f2, .slice B3 vx.f3.length d3, .int .i64 vx.f4]) := s8
              clear y8
              clear hp hb
              refine wantR rfl ⟨15, #[.pointer (some ⟨(w.heap.size + 2), 0, none⟩), .agg #[.int .u8 kx.f0, .int .i64 kx.f1, .string kx.f2, .slice A3 kx.f3.length c3, .int .i64 kx.f4], .agg #[.int .u8 vx.f0, .int .i64 vx.f1, .string vx.f2, .slice B3 vx.f3.length d3, .int .i64 vx.f4]], exec_call' Try.func15 (by kernel_rfl) rfl _ rfl (by simp [e0, e4, e8]) (hf 15), ?_⟩
              refine (put_err1 kx vx A3 B3 c3 d3 (w.heap.size + 2) w.heap.size (w.heap.size + 1) T (fun k => k < w.heap.size) rows came _ (HH.out.tab.ex0 hx) hcame HC3.out.1 HC3.out.2 (ex_F hx HF3.out (fun _ _ h => h)) (ex_F hx HG3.out (fun _ _ h => h)) (fun b hb hT => absurd (HH.out.foot b hT).1 (Nat.not_le.2 hb)) HCC.out).mono ?_
              rintro e wq ⟨rfl, hq0⟩
              exact ⟨_, rfl, hq0, rfl⟩
            · intro o ho ρ yl w1 hx hc hf hgl hp hb
              simp only [List.getElem?_toArray, List.getElem?_cons_succ, List.getElem?_cons_zero, Option.some.injEq] at ho
              subst ho
              have hx := ((Ex.refl (fun _ => False) wr).drew).trans hx (fun _ h => h.elim)
              obtain ⟨v9, s9, e9, y9⟩ := hp 9 (by kernel_rfl)
              have e9 := e9 57 rfl
              obtain rfl : v9 = (.tuple #[.agg #[.int .u8 0, .int .i64 0, .string ⟨#[]⟩, .slice none 0 0, .int .i64 0], .bool false, .int .i64 2]) := s9
              clear y9
              clear hp hb
              refine wantL rfl ⟨.tuple #[.agg #[.int .u8 0, .int .i64 0, .string ⟨#[]⟩, .slice none 0 0, .int .i64 0], .bool false, .int .i64 2], w1, ?_, Ex.refl _ _, rfl⟩
              go_simp
            · intro o ho ρ yl w1 hx hc hf hgl hp hb
              simp only [List.getElem?_toArray, List.getElem?_cons_succ, List.getElem?_cons_zero, Option.some.injEq] at ho
              subst ho
              have hx := ((Ex.refl (fun _ => False) wr).drew).trans hx (fun _ h => h.elim)
              obtain ⟨v10, s10, e10, y10⟩ := hp 10 (by kernel_rfl)
              have e10 := e10 47 rfl
              obtain rfl : v10 = (.tuple #[.agg #[.int .u8 0, .int .i64 0, .string ⟨#[]⟩, .slice none 0 0, .int .i64 0], .bool false, .int .i64 2]) := s10
              clear y10
              clear hp hb
              refine wantL rfl ⟨.agg #[.int .u8 0, .int .i64 0, .string ⟨#[]⟩, .slice none 0 0, .int .i64 0], w1, ?_, Ex.refl _ _, rfl⟩
              go_simp
            · exact absurd hnl (by decide)
            · exact absurd hnl (by decide)
            · intro o ho ρ yl w1 hx hc hf hgl hp hb
              simp only [List.getElem?_toArray, List.getElem?_cons_succ, List.getElem?_cons_zero, Option.some.injEq] at ho
              subst ho
              have hx := ((Ex.refl (fun _ => False) wr).drew).trans hx (fun _ h => h.elim)
              clear hp hb
              refine wantL rfl ⟨_, _, exec_value (s := Instr.alloc 27 true (.tuple #[])) rfl (alloc27 w1), (Ex.refl _ _).alloc _, ⟨w1.heap.size, rfl, hx.size, blk_new1 _ _⟩⟩
          · intro i hil
            obtain rfl | rfl : i = 12 ∨ i = 13 := by simpa using hil
            · intro o ho ρ yl w1 hx hc hf hgl hp hb
              simp only [List.getElem?_toArray, List.getElem?_cons_succ, List.getElem?_cons_zero, Option.some.injEq] at ho
              subst ho
              have hx := ((Ex.refl (fun _ => False) wr).drew).trans hx (fun _ h => h.elim)
              obtain ⟨v10, s10, e10, y10⟩ := hp 10 (by kernel_rfl)
              have e10 := e10 47 rfl
              obtain rfl : v10 = (.tuple #[.agg #[.int .u8 0, .int .i64 0, .string ⟨#[]⟩, .slice none 0 0, .int .i64 0], .bool false, .int .i64 2]) := s10
              clear y10
              clear hp hb
              refine ⟨.bool false, .inl ⟨rfl, fun w' => ?_⟩, rfl⟩
              go_simp
            · intro o ho ρ yl w1 hx hc hf hgl hp hb
              simp only [List.getElem?_toArray, List.getElem?_cons_succ, List.getElem?_cons_zero, Option.some.injEq] at ho
              subst ho
              have hx := ((Ex.refl (fun _ => False) wr).drew).trans hx (fun _ h => h.elim)
              obtain ⟨v10, s10, e10, y10⟩ := hp 10 (by kernel_rfl)
              have e10 := e10 47 rfl
              obtain rfl : v10 = (.tuple #[.agg #[.int .u8 0, .int .i64 0, .string ⟨#[]⟩, .slice none 0 0, .int .i64 0], .bool false, .int .i64 2]) := s10
              clear y10
              clear hp hb
              refine ⟨.int .i64 2, .inl ⟨rfl, fun w' => ?_⟩, rfl⟩
              go_simp
          · intro xs w1 hx hs KQ hKK
            have s0 : xs 0 = (.pointer (some ⟨(w.heap.size + 2), 0, none⟩)) := hs 0 (by omega)
            have s1 : xs 1 = (.slice (some ad) K.length ca) := hs 1 (by omega)
            have s2 : xs 2 = (.int .i64 i) := hs 2 (by omega)
            have s3 : xs 3 = (.pointer (some (ad.add (i * 5)))) := hs 3 (by omega)
            have s4 : xs 4 = (.agg #[.int .u8 kx.f0, .int .i64 kx.f1, .string kx.f2, .slice A3 kx.f3.length c3, .int .i64 kx.f4]) := hs 4 (by omega)
            have s5 : xs 5 = (.slice (some bd) V.length cb) := hs 5 (by omega)
            have s6 : xs 6 = (.int .i64 i) := hs 6 (by omega)
            have s7 : xs 7 = (.pointer (some (bd.add (i * 5)))) := hs 7 (by omega)
            have s8 : xs 8 = (.agg #[.int .u8 vx.f0, .int .i64 vx.f1, .string vx.f2, .slice B3 vx.f3.length d3, .int .i64 vx.f4]) := hs 8 (by omega)
            have s9 : xs 9 = (.tuple #[.agg #[.int .u8 0, .int .i64 0, .string ⟨#[]⟩, .slice none 0 0, .int .i64 0], .bool false, .int .i64 2]) := hs 9 (by omega)
            have s10 : xs 10 = (.tuple #[.agg #[.int .u8 0, .int .i64 0, .string ⟨#[]⟩, .slice none 0 0, .int .i64 0], .bool false, .int .i64 2]) := hs 10 (by omega)
            have s11 : xs 11 = (.agg #[.int .u8 0, .int .i64 0, .string ⟨#[]⟩, .slice none 0 0, .int .i64 0]) := hs 11 (by omega)
            have s12 : xs 12 = (.bool false) := hs 12 (by omega)
            have s13 : xs 13 = (.int .i64 2) := hs 13 (by omega)
            have s14 : (At wr.heap.size ZB) (xs 14) w1 := hs 14 (by omega)
            clear hs
            simp only [putSlots, dstOf, List.getElem?_toArray, List.getElem?_cons_succ, List.getElem?_cons_zero, Option.bind_some, List.setIfInBounds_toArray, List.set_cons_zero, List.set_cons_succ, List.drop_succ_cons, List.drop_zero]
            rw [s0, s1, s2, s3, s4, s5, s6, s7, s8, s9, s10, s11, s12, s13]
            clear s0 s1 s2 s3 s4 s5 s6 s7 s8 s9 s10 s11 s12 s13
            obtain ⟨g8, hg8, hlo, hb8⟩ := s14
            rw [hg8]
            have HB8 := Aside0.mk hb8
            have HLO := Aside0.mk hlo
            have HX1 := Aside0.mk hx
            have q8c0 := (blk_cell hb8 0).trans rfl
            have q8f0 := blk_frozen hb8 0
            have q8c1 := (blk_cell hb8 1).trans rfl
            have q8f1 := blk_frozen hb8 1
            have q8c2 := (blk_cell hb8 2).trans rfl
            have q8f2 := blk_frozen hb8 2
            have q8c3 := (blk_cell hb8 3).trans rfl
            have q8f3 := blk_frozen hb8 3
            have q8c4 := (blk_cell hb8 4).trans rfl
            have q8f4 := blk_frozen hb8 4
            have q8l := lt_of_blk hb8
            clear hg8 hb8 hx hlo
            go_wp2_with fail
            go_meet
            exact ⟨rfl, rfl, ⟨ex_put27 HX1.out (.inr HLO.out) _ _ _ _ _⟩⟩
        case rest =>
          obtain ⟨rfl, rfl, HXA⟩ := hcut
          go_wp2_with fail
          go_roundg (gk - 1)
          case measure => have := HM.out; omega
          case rel => exact ⟨i + 1, es, rows, came, T, by go_num, ⟨by have := HM.out; omega⟩, ⟨(HH.out.ex0 HXA.out).skip HKX.out.1 HKX.out.2 HCS.out⟩⟩
      · skip
        have HCS := Aside0.mk (show (mayV kx = false ∨ mayV vx = false) ∨ ¬ KeyV kx from .inr hcase)
        have HCC := Aside0.mk (And.intro hmk (And.intro hmv hcase))
        clear hcase hmk hmv
        have HLT := Aside0.mk (show w.heap.size + 2 < wr.heap.size from lt_of_blk HH.out.tab.hg)
        go_upto_region 8 with (fail)
        go_cut [8, 9, 10] from 47 to 60 (fun s8 s9 s10 wx => s9 = .bool false ∧ s10 = .int .i64 40 ∧ Aside0 (Ex (fun _ => False) wr wx))
        case first =>
          refine region_by 15 [12, 13] (specL [Is (.pointer (some ⟨(w.heap.size + 2), 0, none⟩)), Is (.slice (some ad) K.length ca), Is (.int .i64 i), Is (.pointer (some (ad.add (i * 5)))), Is (.agg #[.int .u8 kx.f0, .int .i64 kx.f1, .string kx.f2, .slice A3 kx.f3.length c3, .int .i64 kx.f4]), Is (.slice (some bd) V.length cb), Is (.int .i64 i), Is (.pointer (some (bd.add (i * 5)))), Is (.agg #[.int .u8 vx.f0, .int .i64 vx.f1, .string vx.f2, .slice B3 vx.f3.length d3, .int .i64 vx.f4]), Is (.tuple #[.agg #[.int .u8 0, .int .i64 0, .string ⟨#[]⟩, .slice none 0 0, .int .i64 0], .bool false, .int .i64 40]), Is (.tuple #[.agg #[.int .u8 0, .int .i64 0, .string ⟨#[]⟩, .slice none 0 0, .int .i64 0], .bool false, .int .i64 40]), Is (.agg #[.int .u8 0, .int .i64 0, .string ⟨#[]⟩, .slice none 0 0, .int .i64 0]), Is (.bool false), Is (.int .i64 40), At wr.heap.size ZB]) (by decide) (by decide) (by kernel_rfl) (by kernel_rfl) (stab_all (stab_cons (stab_is _) (stab_cons (stab_is _) (stab_cons (stab_is _) (stab_cons (stab_is _) (stab_cons (stab_is _) (stab_cons (stab_is _) (stab_cons (stab_is _) (stab_cons (stab_is _) (stab_cons (stab_is _) (stab_cons (stab_is _) (stab_cons (stab_is _) (stab_cons (stab_is _) (stab_cons (stab_is _) (stab_cons (stab_is _) (stab_cons (stab_at _ _) (stab_nil))))))))))))))))) ?_ ?_ ?_
          · intro i hi hnl
            obtain rfl | rfl | rfl | rfl | rfl | rfl | rfl | rfl | rfl | rfl | rfl | rfl | rfl | rfl | rfl : i = 0 ∨ i = 1 ∨ i = 2 ∨ i = 3 ∨ i = 4 ∨ i = 5 ∨ i = 6 ∨ i = 7 ∨ i = 8 ∨ i = 9 ∨ i = 10 ∨ i = 11 ∨ i = 12 ∨ i = 13 ∨ i = 14 := by omega
            · intro o ho ρ yl w1 hx hc hf hgl hp hb
              simp only [List.getElem?_toArray, List.getElem?_cons_succ, List.getElem?_cons_zero, Option.some.injEq] at ho
              subst ho
              have hx := ((Ex.refl (fun _ => False) wr).drew).trans hx (fun _ h => h.elim)
              have b5 := hb 5 (by kernel_rfl)
              clear hp hb
              refine wantL rfl ⟨.pointer (some ⟨(w.heap.size + 2), 0, none⟩), w1, ?_, Ex.refl _ _, rfl⟩
              go_simp
            · intro o ho ρ yl w1 hx hc hf hgl hp hb
              simp only [List.getElem?_toArray, List.getElem?_cons_succ, List.getElem?_cons_zero, Option.some.injEq] at ho
              subst ho
              have hx := ((Ex.refl (fun _ => False) wr).drew).trans hx (fun _ h => h.elim)
              have b0 := hb 0 (by kernel_rfl)
              clear hp hb
              refine wantL rfl ⟨.slice (some ad) K.length ca, w1, ?_, Ex.refl _ _, rfl⟩
              go_simp
            · intro o ho ρ yl w1 hx hc hf hgl hp hb
              simp only [List.getElem?_toArray, List.getElem?_cons_succ, List.getElem?_cons_zero, Option.some.injEq] at ho
              subst ho
              have hx := ((Ex.refl (fun _ => False) wr).drew).trans hx (fun _ h => h.elim)
              have b7 := hb 7 (by kernel_rfl)
              clear hp hb
              refine wantL rfl ⟨.int .i64 i, w1, ?_, Ex.refl _ _, rfl⟩
              go_simp
            · intro o ho ρ yl w1 hx hc hf hgl hp hb
              simp only [List.getElem?_toArray, List.getElem?_cons_succ, List.getElem?_cons_zero, Option.some.injEq] at ho
              subst ho
              have hx := ((Ex.refl (fun _ => False) wr).drew).trans hx (fun _ h => h.elim)
              obtain ⟨v1, s1, e1, y1⟩ := hp 1 (by kernel_rfl)
              have e1 := e1 49 rfl
              obtain rfl : v1 = (.slice (some ad) K.length ca) := s1
              clear y1
              obtain ⟨v2, s2, e2, y2⟩ := hp 2 (by kernel_rfl)
              have e2 := e2 50 rfl
              obtain rfl : v2 = (.int .i64 i) := s2
              clear y2
              clear hp hb
              refine wantL rfl ⟨.pointer (some (ad.add (i * 5))), w1, ?_, Ex.refl _ _, rfl⟩
              go_simp
            · intro o ho ρ yl w1 hx hc hf hgl hp hb
              simp only [List.getElem?_toArray, List.getElem?_cons_succ, List.getElem?_cons_zero, Option.some.injEq] at ho
              subst ho
              have hx := ((Ex.refl (fun _ => False) wr).drew).trans hx (fun _ h => h.elim)
              obtain ⟨v3, s3, e3, y3⟩ := hp 3 (by kernel_rfl)
              have e3 := e3 51 rfl
              obtain rfl : v3 = (.pointer (some (ad.add (i * 5)))) := s3
              clear y3
              clear hp hb
              obtain ⟨h0, h1, h2, h3, h4⟩ := HCL.out _ w1 hx (fun _ _ h => h)
              refine wantL rfl ⟨.agg #[.int .u8 kx.f0, .int .i64 kx.f1, .string kx.f2, .slice A3 kx.f3.length c3, .int .i64 kx.f4], w1, ?_, Ex.refl _ _, rfl⟩
              go_simp
            · intro o ho ρ yl w1 hx hc hf hgl hp hb
              simp only [List.getElem?_toArray, List.getElem?_cons_succ, List.getElem?_cons_zero, Option.some.injEq] at ho
              subst ho
              have hx := ((Ex.refl (fun _ => False) wr).drew).trans hx (fun _ h => h.elim)
              have b1 := hb 1 (by kernel_rfl)
              clear hp hb
              refine wantL rfl ⟨.slice (some bd) V.length cb, w1, ?_, Ex.refl _ _, rfl⟩
              go_simp
            · intro o ho ρ yl w1 hx hc hf hgl hp hb
              simp only [List.getElem?_toArray, List.getElem?_cons_succ, List.getElem?_cons_zero, Option.some.injEq] at ho
              subst ho
              have hx := ((Ex.refl (fun _ => False) wr).drew).trans hx (fun _ h => h.elim)
              have b7 := hb 7 (by kernel_rfl)
              clear hp hb
              refine wantL rfl ⟨.int .i64 i, w1, ?_, Ex.refl _ _, rfl⟩
              go_simp
            · intro o ho ρ yl w1 hx hc hf hgl hp hb
              simp only [List.getElem?_toArray, List.getElem?_cons_succ, List.getElem?_cons_zero, Option.some.injEq] at ho
              subst ho
              have hx := ((Ex.refl (fun _ => False) wr).drew).trans hx (fun _ h => h.elim)
              obtain ⟨v5, s5, e5, y5⟩ := hp 5 (by kernel_rfl)
              have e5 := e5 53 rfl
              obtain rfl : v5 = (.slice (some bd) V.length cb) := s5
              clear y5
              obtain ⟨v6, s6, e6, y6⟩ := hp 6 (by kernel_rfl)
              have e6 := e6 54 rfl
              obtain rfl : v6 = (.int .i64 i) := s6
              clear y6
              clear hp hb
              refine wantL rfl ⟨.pointer (some (bd.add (i * 5))), w1, ?_, Ex.refl _ _, rfl⟩
              go_simp
            · intro o ho ρ yl w1 hx hc hf hgl hp hb
              simp only [List.getElem?_toArray, List.getElem?_cons_succ, List.getElem?_cons_zero, Option.some.injEq] at ho
              subst ho
              have hx := ((Ex.refl (fun _ => False) wr).drew).trans hx (fun _ h => h.elim)
              obtain ⟨v7, s7, e7, y7⟩ := hp 7 (by kernel_rfl)
              have e7 := e7 55 rfl
              obtain rfl : v7 = (.pointer (some (bd.add (i * 5)))) := s7
              clear y7
              clear hp hb
              obtain ⟨h0, h1, h2, h3, h4⟩ := HDL.out _ w1 hx (fun _ _ h => h)
              refine wantL rfl ⟨.agg #[.int .u8 vx.f0, .int .i64 vx.f1, .string vx.f2, .slice B3 vx.f3.length d3, .int .i64 vx.f4], w1, ?_, Ex.refl _ _, rfl⟩
              go_simp
            · intro o ho ρ yl w1 hx hc hf hgl hp hb
              simp only [List.getElem?_toArray, List.getElem?_cons_succ, List.getElem?_cons_zero, Option.some.injEq] at ho
              subst ho
              have hx := ((Ex.refl (fun _ => False) wr).drew).trans hx (fun _ h => h.elim)
              obtain ⟨v0, s0, e0, y0⟩ := hp 0 (by kernel_rfl)
              have e0 := e0 48 rfl
              obtain rfl : v0 = (.pointer (some ⟨(w.heap.size + 2), 0, none⟩)) := s0
              clear y0
              obtain ⟨v4, s4, e4, y4⟩ := hp 4 (by kernel_rfl)
              have e4 := e4 52 rfl
              obtain rfl : v4 = (.agg #[.int .u8 kx.f0, .int .i64 kx.f1, .string kx.f2, .slice A3 kx.f3.length c3, .int .i64 kx.f4]) := s4
              clear y4
              obtain ⟨v8, s8, e8, y8⟩ := hp 8 (by kernel_rfl)
              have e8 := e8 56 rfl
              obtain rfl : v8 = (.agg #[.int .u8 vx.f0, .int .i64 vx.f1, .string vx.f2, .slice B3 vx.f3.length d3, .int .i64 vx.f4]) := s8
              clear y8
              clear hp hb
              refine wantR rfl ⟨15, #[.pointer (some ⟨(w.heap.size + 2), 0, none⟩), .agg #[.int .u8 kx.f0, .int .i64 kx.f1, .string kx.f2, .slice A3 kx.f3.length c3, .int .i64 kx.f4], .agg #[.int .u8 vx.f0, .int .i64 vx.f1, .string vx.f2, .slice B3 vx.f3.length d3, .int .i64 vx.f4]], exec_call' Try.func15 (by kernel_rfl) rfl _ rfl (by simp [e0, e4, e8]) (hf 15), ?_⟩
              refine (put_err2 kx vx A3 B3 c3 d3 (w.heap.size + 2) w.heap.size (w.heap.size + 1) T (fun k => k < w.heap.size) rows came _ (HH.out.tab.ex0 hx) hcame HC3.out.1 HC3.out.2 (ex_F hx HF3.out (fun _ _ h => h)) (ex_F hx HG3.out (fun _ _ h => h)) (fun b hb hT => absurd (HH.out.foot b hT).1 (Nat.not_le.2 hb)) HCC.out.1 HCC.out.2.1 HCC.out.2.2).mono ?_
              rintro e wq ⟨rfl, hq0⟩
              exact ⟨_, rfl, hq0, rfl⟩
            · intro o ho ρ yl w1 hx hc hf hgl hp hb
              simp only [List.getElem?_toArray, List.getElem?_cons_succ, List.getElem?_cons_zero, Option.some.injEq] at ho
              subst ho
              have hx := ((Ex.refl (fun _ => False) wr).drew).trans hx (fun _ h => h.elim)
              obtain ⟨v9, s9, e9, y9⟩ := hp 9 (by kernel_rfl)
              have e9 := e9 57 rfl
              obtain rfl : v9 = (.tuple #[.agg #[.int .u8 0, .int .i64 0, .string ⟨#[]⟩, .slice none 0 0, .int .i64 0], .bool false, .int .i64 40]) := s9
              clear y9
              clear hp hb
              refine wantL rfl ⟨.tuple #[.agg #[.int .u8 0, .int .i64 0, .string ⟨#[]⟩, .slice none 0 0, .int .i64 0], .bool false, .int .i64 40], w1, ?_, Ex.refl _ _, rfl⟩
              go_simp
            · intro o ho ρ yl w1 hx hc hf hgl hp hb
              simp only [List.getElem?_toArray, List.getElem?_cons_succ, List.getElem?_cons_zero, Option.some.injEq] at ho
              subst ho
              have hx := ((Ex.refl (fun _ => False) wr).drew).trans hx (fun _ h => h.elim)
              obtain ⟨v10, s10, e10, y10⟩ := hp 10 (by kernel_rfl)
              have e10 := e10 47 rfl
              obtain rfl : v10 = (.tuple #[.agg #[.int .u8 0, .int .i64 0, .string ⟨#[]⟩, .slice none 0 0, .int .i64 0], .bool false, .int .i64 40]) := s10
              clear y10
              clear hp hb
              refine wantL rfl ⟨.agg #[.int .u8 0, .int .i64 0, .string ⟨#[]⟩, .slice none 0 0, .int .i64 0], w1, ?_, Ex.refl _ _, rfl⟩
              go_simp
            · exact absurd hnl (by decide)
            · exact absurd hnl (by decide)
            · intro o ho ρ yl w1 hx hc hf hgl hp hb
              simp only [List.getElem?_toArray, List.getElem?_cons_succ, List.getElem?_cons_zero, Option.some.injEq] at ho
              subst ho
              have hx := ((Ex.refl (fun _ => False) wr).drew).trans hx (fun _ h => h.elim)
              clear hp hb
              refine wantL rfl ⟨_, _, exec_value (s := Instr.alloc 27 true (.tuple #[])) rfl (alloc27 w1), (Ex.refl _ _).alloc _, ⟨w1.heap.size, rfl, hx.size, blk_new1 _ _⟩⟩
          · intro i hil
            obtain rfl | rfl : i = 12 ∨ i = 13 := by simpa using hil
            · intro o ho ρ yl w1 hx hc hf hgl hp hb
              simp only [List.getElem?_toArray, List.getElem?_cons_succ, List.getElem?_cons_zero, Option.some.injEq] at ho
              subst ho
              have hx := ((Ex.refl (fun _ => False) wr).drew).trans hx (fun _ h => h.elim)
              obtain ⟨v10, s10, e10, y10⟩ := hp 10 (by kernel_rfl)
              have e10 := e10 47 rfl
              obtain rfl : v10 = (.tuple #[.agg #[.int .u8 0, .int .i64 0, .string ⟨#[]⟩, .slice none 0 0, .int .i64 0], .bool false, .int .i64 40]) := s10
              clear y10
              clear hp hb
              refine ⟨.bool false, .inl ⟨rfl, fun w' => ?_⟩, rfl⟩
              go_simp
            · intro o ho ρ yl w1 hx hc hf hgl hp hb
              simp only [List.getElem?_toArray, List.getElem?_cons_succ, List.getElem?_cons_zero, Option.some.injEq] at ho
              subst ho
              have hx := ((Ex.refl (fun _ => False) wr).drew).trans hx (fun _ h => h.elim)
              obtain ⟨v10, s10, e10, y10⟩ := hp 10 (by kernel_rfl)
              have e10 := e10 47 rfl
              obtain rfl : v10 = (.tuple #[.agg #[.int .u8 0, .int .i64 0, .string ⟨#[]⟩, .slice none 0 0, .int .i64 0], .bool false, .int .i64 40]) := s10
              clear y10
              clear hp hb
              refine ⟨.int .i64 40, .inl ⟨rfl, fun w' => ?_⟩, rfl⟩
              go_simp
          · intro xs w1 hx hs KQ hKK
            have s0 : xs 0 = (.pointer (some ⟨(w.heap.size + 2), 0, none⟩)) := hs 0 (by omega)
            have s1 : xs 1 = (.slice (some ad) K.length ca) := hs 1 (by omega)
            have s2 : xs 2 = (.int .i64 i) := hs 2 (by omega)
            have s3 : xs 3 = (.pointer (some (ad.add (i * 5)))) := hs 3 (by omega)
            have s4 : xs 4 = (.agg #[.int .u8 kx.f0, .int .i64 kx.f1, .string kx.f2, .slice A3 kx.f3.length c3, .int .i64 kx.f4]) := hs 4 (by omega)
            have s5 : xs 5 = (.slice (some bd) V.length cb) := hs 5 (by omega)
            have s6 : xs 6 = (.int .i64 i) := hs 6 (by omega)
            have s7 : xs 7 = (.pointer (some (bd.add (i * 5)))) := hs 7 (by omega)
            have s8 : xs 8 = (.agg #[.int .u8 vx.f0, .int .i64 vx.f1, .string vx.f2, .slice B3 vx.f3.length d3, .int .i64 vx.f4]) := hs 8 (by omega)
            have s9 : xs 9 = (.tuple #[.agg #[.int .u8 0, .int .i64 0, .string ⟨#[]⟩, .slice none 0 0, .int .i64 0], .bool false, .int .i64 40]) := hs 9 (by omega)
            have s10 : xs 10 = (.tuple #[.agg #[.int .u8 0, .int .i64 0, .string ⟨#[]⟩, .slice none 0 0, .int .i64 0], .bool false, .int .i64 40]) := hs 10 (by omega)
            have s11 : xs 11 = (.agg #[.int .u8 0, .int .i64 0, .string ⟨#[]⟩, .slice none 0 0, .int .i64 0]) := hs 11 (by omega)
            have s12 : xs 12 = (.bool false) := hs 12 (by omega)
            have s13 : xs 13 = (.int .i64 40) := hs 13 (by omega)
            have s14 : (At wr.heap.size ZB) (xs 14) w1 := hs 14 (by omega)
            clear hs
            simp only [putSlots, dstOf, List.getElem?_toArray, List.getElem?_cons_succ, List.getElem?_cons_zero, Option.bind_some, List.setIfInBounds_toArray, List.set_cons_zero, List.set_cons_succ, List.drop_succ_cons, List.drop_zero]
            rw [s0, s1, s2, s3, s4, s5, s6, s7, s8, s9, s10, s11, s12, s13]
            clear s0 s1 s2 s3 s4 s5 s6 s7 s8 s9 s10 s11 s12 s13
            obtain ⟨g8, hg8, hlo, hb8⟩ := s14
            rw [hg8]
            have HB8 := Aside0.mk hb8
            have HLO := Aside0.mk hlo
            have HX1 := Aside0.mk hx
            have q8c0 := (blk_cell hb8 0).trans rfl
            have q8f0 := blk_frozen hb8 0
            have q8c1 := (blk_cell hb8 1).trans rfl
            have q8f1 := blk_frozen hb8 1
            have q8c2 := (blk_cell hb8 2).trans rfl
            have q8f2 := blk_frozen hb8 2
            have q8c3 := (blk_cell hb8 3).trans rfl
            have q8f3 := blk_frozen hb8 3
            have q8c4 := (blk_cell hb8 4).trans rfl
            have q8f4 := blk_frozen hb8 4
            have q8l := lt_of_blk hb8
            clear hg8 hb8 hx hlo
            go_wp2_with fail
            go_meet
            exact ⟨rfl, rfl, ⟨ex_put27 HX1.out (.inr HLO.out) _ _ _ _ _⟩⟩
        case rest =>
          obtain ⟨rfl, rfl, HXA⟩ := hcut
          go_wp2_with fail
          go_roundg (gk - 1)
          case measure => have := HM.out; omega
          case rel => exact ⟨i + 1, es, rows, came, T, by go_num, ⟨by have := HM.out; omega⟩, ⟨(HH.out.ex0 HXA.out).skip HKX.out.1 HKX.out.2 HCS.out⟩⟩
      · skip
        have HCC := Aside0.mk (And.intro hmk (And.intro hmv (And.intro hmo (And.intro hmkey hnew))))
        clear hmk hmv hmo hmkey hnew
        have HLT := Aside0.mk (show w.heap.size + 2 < wr.heap.size from lt_of_blk HH.out.tab.hg)
        go_upto_region 8 with (fail)
        go_cut [8, 9, 10] from 47 to 60 (fun s8 s9 s10 wx => s9 = .bool false ∧ s10 = .int .i64 0 ∧ Aside0 (Ex (fun b : Nat => b = (w.heap.size + 2) ∨ b = w.heap.size ∨ b = (w.heap.size + 1)) wr wx) ∧ Aside0 (∃ T2, (RNew kx vx m (w.heap.size + 2) w.heap.size (w.heap.size + 1) rows came wr.heap.size T) T2 wx))
        case first =>
          refine region_byJ 15 [12, 13] (specL [Is (.pointer (some ⟨(w.heap.size + 2), 0, none⟩)), Is (.slice (some ad) K.length ca), Is (.int .i64 i), Is (.pointer (some (ad.add (i * 5)))), Is (.agg #[.int .u8 kx.f0, .int .i64 kx.f1, .string kx.f2, .slice A3 kx.f3.length c3, .int .i64 kx.f4]), Is (.slice (some bd) V.length cb), Is (.int .i64 i), Is (.pointer (some (bd.add (i * 5)))), Is (.agg #[.int .u8 vx.f0, .int .i64 vx.f1, .string vx.f2, .slice B3 vx.f3.length d3, .int .i64 vx.f4]), Is (.tuple #[.agg #[.int .u8 0, .int .i64 0, .string ⟨#[]⟩, .slice none 0 0, .int .i64 0], .bool false, .int .i64 0]), Is (.tuple #[.agg #[.int .u8 0, .int .i64 0, .string ⟨#[]⟩, .slice none 0 0, .int .i64 0], .bool false, .int .i64 0]), Is (.agg #[.int .u8 0, .int .i64 0, .string ⟨#[]⟩, .slice none 0 0, .int .i64 0]), Is (.bool false), Is (.int .i64 0), At wr.heap.size ZB]) ⟨9, 14, JP wr (RNew kx vx m (w.heap.size + 2) w.heap.size (w.heap.size + 1) rows came wr.heap.size T)⟩ (show (14 : Nat) < 15 from by decide) (show (9 : Nat) ∉ [12, 13] ∧ (14 : Nat) ∉ [12, 13] from by decide) (by kernel_rfl) (by kernel_rfl) (fun b : Nat => b = (w.heap.size + 2) ∨ b = w.heap.size ∨ b = (w.heap.size + 1)) (only 9 (fun b : Nat => b = (w.heap.size + 2) ∨ b = w.heap.size ∨ b = (w.heap.size + 1))) (fun _ _ h => h.2) (stabS_all 9 (stab_cons (stab_is _) (stab_cons (stab_is _) (stab_cons (stab_is _) (stab_cons (stab_is _) (stab_cons (stab_is _) (stab_cons (stab_is _) (stab_cons (stab_is _) (stab_cons (stab_is _) (stab_cons (stab_is _) (stab_cons (stab_is _) (stab_cons (stab_is _) (stab_cons (stab_is _) (stab_cons (stab_is _) (stab_cons (stab_is _) (stab_cons (stab_at _ _) (stab_nil)))))))))))))))) (stabS_start (stabS_cons (fun _ => stabS_is _ _) (stabS_cons (fun _ => stabS_is _ _) (stabS_cons (fun _ => stabS_is _ _) (stabS_cons (fun _ => stabS_is _ _) (stabS_cons (fun _ => stabS_is _ _) (stabS_cons (fun _ => stabS_is _ _) (stabS_cons (fun _ => stabS_is _ _) (stabS_cons (fun _ => stabS_is _ _) (stabS_cons (fun _ => stabS_is _ _) (stabS_cons (fun h => absurd rfl h) (stabS_cons (fun _ => stabS_is _ _) (stabS_cons (fun _ => stabS_is _ _) (stabS_cons (fun _ => stabS_is _ _) (stabS_cons (fun _ => stabS_is _ _) (stabS_cons (fun _ => stabS_at _ _ _ (fun b hb => by rcases hb with rfl | rfl | rfl <;> (have := HLT.out; omega))) (stabS_nil _ _ _)))))))))))))))))) ?_ ?_ ((Ex.refl _ _).drew) ?_
          · intro i hi hnl
            obtain rfl | rfl | rfl | rfl | rfl | rfl | rfl | rfl | rfl | rfl | rfl | rfl | rfl | rfl | rfl : i = 0 ∨ i = 1 ∨ i = 2 ∨ i = 3 ∨ i = 4 ∨ i = 5 ∨ i = 6 ∨ i = 7 ∨ i = 8 ∨ i = 9 ∨ i = 10 ∨ i = 11 ∨ i = 12 ∨ i = 13 ∨ i = 14 := by omega
            · intro o ho ρ yl w1 hx hc hf hgl hp hb bp bq jv hJ hjp hjq
              simp only [List.getElem?_toArray, List.getElem?_cons_succ, List.getElem?_cons_zero, Option.some.injEq] at ho
              subst ho
              have hx := ((Ex.refl (fun b : Nat => b = (w.heap.size + 2) ∨ b = w.heap.size ∨ b = (w.heap.size + 1)) wr).drew).trans hx (fun _ h => .inl h)
              have b5 := hb 5 (by kernel_rfl)
              clear hp hb
              refine wantL rfl ⟨.pointer (some ⟨(w.heap.size + 2), 0, none⟩), w1, ?_, Ex.refl _ _, rfl, by simpa using hJ⟩
              go_simp
            · intro o ho ρ yl w1 hx hc hf hgl hp hb bp bq jv hJ hjp hjq
              simp only [List.getElem?_toArray, List.getElem?_cons_succ, List.getElem?_cons_zero, Option.some.injEq] at ho
              subst ho
              have hx := ((Ex.refl (fun b : Nat => b = (w.heap.size + 2) ∨ b = w.heap.size ∨ b = (w.heap.size + 1)) wr).drew).trans hx (fun _ h => .inl h)
              have b0 := hb 0 (by kernel_rfl)
              clear hp hb
              refine wantL rfl ⟨.slice (some ad) K.length ca, w1, ?_, Ex.refl _ _, rfl, by simpa using hJ⟩
              go_simp
            · intro o ho ρ yl w1 hx hc hf hgl hp hb bp bq jv hJ hjp hjq
              simp only [List.getElem?_toArray, List.getElem?_cons_succ, List.getElem?_cons_zero, Option.some.injEq] at ho
              subst ho
              have hx := ((Ex.refl (fun b : Nat => b = (w.heap.size + 2) ∨ b = w.heap.size ∨ b = (w.heap.size + 1)) wr).drew).trans hx (fun _ h => .inl h)
              have b7 := hb 7 (by kernel_rfl)
              clear hp hb
              refine wantL rfl ⟨.int .i64 i, w1, ?_, Ex.refl _ _, rfl, by simpa using hJ⟩
              go_simp
            · intro o ho ρ yl w1 hx hc hf hgl hp hb bp bq jv hJ hjp hjq
              simp only [List.getElem?_toArray, List.getElem?_cons_succ, List.getElem?_cons_zero, Option.some.injEq] at ho
              subst ho
              have hx := ((Ex.refl (fun b : Nat => b = (w.heap.size + 2) ∨ b = w.heap.size ∨ b = (w.heap.size + 1)) wr).drew).trans hx (fun _ h => .inl h)
              obtain ⟨v1, s1, e1, y1⟩ := hp 1 (by kernel_rfl)
              have e1 := e1 49 rfl
              obtain rfl : v1 = (.slice (some ad) K.length ca) := s1
              clear y1
              obtain ⟨v2, s2, e2, y2⟩ := hp 2 (by kernel_rfl)
              have e2 := e2 50 rfl
              obtain rfl : v2 = (.int .i64 i) := s2
              clear y2
              clear hp hb
              refine wantL rfl ⟨.pointer (some (ad.add (i * 5))), w1, ?_, Ex.refl _ _, rfl, by simpa using hJ⟩
              go_simp
            · intro o ho ρ yl w1 hx hc hf hgl hp hb bp bq jv hJ hjp hjq
              simp only [List.getElem?_toArray, List.getElem?_cons_succ, List.getElem?_cons_zero, Option.some.injEq] at ho
              subst ho
              have hx := ((Ex.refl (fun b : Nat => b = (w.heap.size + 2) ∨ b = w.heap.size ∨ b = (w.heap.size + 1)) wr).drew).trans hx (fun _ h => .inl h)
              obtain ⟨v3, s3, e3, y3⟩ := hp 3 (by kernel_rfl)
              have e3 := e3 51 rfl
              obtain rfl : v3 = (.pointer (some (ad.add (i * 5)))) := s3
              clear y3
              clear hp hb
              obtain ⟨h0, h1, h2, h3, h4⟩ := HCL.out _ w1 hx (by intro b hb hs; rcases hs with rfl | rfl | rfl <;> omega)
              refine wantL rfl ⟨.agg #[.int .u8 kx.f0, .int .i64 kx.f1, .string kx.f2, .slice A3 kx.f3.length c3, .int .i64 kx.f4], w1, ?_, Ex.refl _ _, rfl, by simpa using hJ⟩
              go_simp
            · intro o ho ρ yl w1 hx hc hf hgl hp hb bp bq jv hJ hjp hjq
              simp only [List.getElem?_toArray, List.getElem?_cons_succ, List.getElem?_cons_zero, Option.some.injEq] at ho
              subst ho
              have hx := ((Ex.refl (fun b : Nat => b = (w.heap.size + 2) ∨ b = w.heap.size ∨ b = (w.heap.size + 1)) wr).drew).trans hx (fun _ h => .inl h)
              have b1 := hb 1 (by kernel_rfl)
              clear hp hb
              refine wantL rfl ⟨.slice (some bd) V.length cb, w1, ?_, Ex.refl _ _, rfl, by simpa using hJ⟩
              go_simp
            · intro o ho ρ yl w1 hx hc hf hgl hp hb bp bq jv hJ hjp hjq
              simp only [List.getElem?_toArray, List.getElem?_cons_succ, List.getElem?_cons_zero, Option.some.injEq] at ho
              subst ho
              have hx := ((Ex.refl (fun b : Nat => b = (w.heap.size + 2) ∨ b = w.heap.size ∨ b = (w.heap.size + 1)) wr).drew).trans hx (fun _ h => .inl h)
              have b7 := hb 7 (by kernel_rfl)
              clear hp hb
              refine wantL rfl ⟨.int .i64 i, w1, ?_, Ex.refl _ _, rfl, by simpa using hJ⟩
              go_simp
            · intro o ho ρ yl w1 hx hc hf hgl hp hb bp bq jv hJ hjp hjq
              simp only [List.getElem?_toArray, List.getElem?_cons_succ, List.getElem?_cons_zero, Option.some.injEq] at ho
              subst ho
              have hx := ((Ex.refl (fun b : Nat => b = (w.heap.size + 2) ∨ b = w.heap.size ∨ b = (w.heap.size + 1)) wr).drew).trans hx (fun _ h => .inl h)
              obtain ⟨v5, s5, e5, y5⟩ := hp 5 (by kernel_rfl)
              have e5 := e5 53 rfl
              obtain rfl : v5 = (.slice (some bd) V.length cb) := s5
              clear y5
              obtain ⟨v6, s6, e6, y6⟩ := hp 6 (by kernel_rfl)
              have e6 := e6 54 rfl
              obtain rfl : v6 = (.int .i64 i) := s6
              clear y6
              clear hp hb
              refine wantL rfl ⟨.pointer (some (bd.add (i * 5))), w1, ?_, Ex.refl _ _, rfl, by simpa using hJ⟩
              go_simp
            · intro o ho ρ yl w1 hx hc hf hgl hp hb bp bq jv hJ hjp hjq
              simp only [List.getElem?_toArray, List.getElem?_cons_succ, List.getElem?_cons_zero, Option.some.injEq] at ho
              subst ho
              have hx := ((Ex.refl (fun b : Nat => b = (w.heap.size + 2) ∨ b = w.heap.size ∨ b = (w.heap.size + 1)) wr).drew).trans hx (fun _ h => .inl h)
              obtain ⟨v7, s7, e7, y7⟩ := hp 7 (by kernel_rfl)
              have e7 := e7 55 rfl
              obtain rfl : v7 = (.pointer (some (bd.add (i * 5)))) := s7
              clear y7
              clear hp hb
              obtain ⟨h0, h1, h2, h3, h4⟩ := HDL.out _ w1 hx (by intro b hb hs; rcases hs with rfl | rfl | rfl <;> omega)
              refine wantL rfl ⟨.agg #[.int .u8 vx.f0, .int .i64 vx.f1, .string vx.f2, .slice B3 vx.f3.length d3, .int .i64 vx.f4], w1, ?_, Ex.refl _ _, rfl, by simpa using hJ⟩
              go_simp
            · intro o ho ρ yl w1 hx hc hf hgl hp hb bp bq jv hJ hjp hjq
              simp only [List.getElem?_toArray, List.getElem?_cons_succ, List.getElem?_cons_zero, Option.some.injEq] at ho
              subst ho
              have hx := ((Ex.refl (fun b : Nat => b = (w.heap.size + 2) ∨ b = w.heap.size ∨ b = (w.heap.size + 1)) wr).drew).trans hx (fun _ h => .inl h)
              obtain ⟨v0, s0, e0, y0⟩ := hp 0 (by kernel_rfl)
              have e0 := e0 48 rfl
              obtain rfl : v0 = (.pointer (some ⟨(w.heap.size + 2), 0, none⟩)) := s0
              clear y0
              obtain ⟨v4, s4, e4, y4⟩ := hp 4 (by kernel_rfl)
              have e4 := e4 52 rfl
              obtain rfl : v4 = (.agg #[.int .u8 kx.f0, .int .i64 kx.f1, .string kx.f2, .slice A3 kx.f3.length c3, .int .i64 kx.f4]) := s4
              clear y4
              obtain ⟨v8, s8, e8, y8⟩ := hp 8 (by kernel_rfl)
              have e8 := e8 56 rfl
              obtain rfl : v8 = (.agg #[.int .u8 vx.f0, .int .i64 vx.f1, .string vx.f2, .slice B3 vx.f3.length d3, .int .i64 vx.f4]) := s8
              clear y8
              clear hp hb
              refine wantR rfl ⟨15, #[.pointer (some ⟨(w.heap.size + 2), 0, none⟩), .agg #[.int .u8 kx.f0, .int .i64 kx.f1, .string kx.f2, .slice A3 kx.f3.length c3, .int .i64 kx.f4], .agg #[.int .u8 vx.f0, .int .i64 vx.f1, .string vx.f2, .slice B3 vx.f3.length d3, .int .i64 vx.f4]], exec_call' Try.func15 (by kernel_rfl) rfl _ rfl (by simp [e0, e4, e8]) (hf 15), ?_⟩
              have hjp := hjp rfl
              subst hjp
              have hb0 := JP.before hJ
              refine (put_isnew kx vx A3 B3 c3 d3 (w.heap.size + 2) w.heap.size (w.heap.size + 1) T (fun k => k < w.heap.size) rows came _ (HH.out.tab.ex0 hb0) hcame HC3.out.1 HC3.out.2 (ex_F hb0 HF3.out (fun _ _ h => h)) (ex_F hb0 HG3.out (fun _ _ h => h)) (fun b hb hT => absurd (HH.out.foot b hT).1 (Nat.not_le.2 hb)) HCC.out.1 HCC.out.2.1 m HCC.out.2.2.1 HCC.out.2.2.2.1 HCC.out.2.2.2.2).mono ?_
              rintro e wq ⟨rfl, hq0, r, hr1, hr2, hr3, hr4⟩
              refine ⟨_, rfl, ex_the hq0, rfl, ?_⟩
              have h9 := JP.call (T := T) hJ (fun b hb => (HH.out.foot b hb).2.1) (fun b hb => by rcases hb with rfl | rfl | rfl <;> (have := HLT.out; omega)) hq0 (show RNew kx vx m _ _ _ rows came wr.heap.size T _ wq from ⟨r, hr1, hr2, hr3, hr4.bound, fun b hb => hb.1.imp id (fun h => Nat.le_trans hb0.size h)⟩)
              simpa using h9
            · intro o ho ρ yl w1 hx hc hf hgl hp hb bp bq jv hJ hjp hjq
              simp only [List.getElem?_toArray, List.getElem?_cons_succ, List.getElem?_cons_zero, Option.some.injEq] at ho
              subst ho
              have hx := ((Ex.refl (fun b : Nat => b = (w.heap.size + 2) ∨ b = w.heap.size ∨ b = (w.heap.size + 1)) wr).drew).trans hx (fun _ h => .inl h)
              obtain ⟨v9, s9, e9, y9⟩ := hp 9 (by kernel_rfl)
              have e9 := e9 57 rfl
              obtain rfl : v9 = (.tuple #[.agg #[.int .u8 0, .int .i64 0, .string ⟨#[]⟩, .slice none 0 0, .int .i64 0], .bool false, .int .i64 0]) := s9
              clear y9
              clear hp hb
              refine wantL rfl ⟨.tuple #[.agg #[.int .u8 0, .int .i64 0, .string ⟨#[]⟩, .slice none 0 0, .int .i64 0], .bool false, .int .i64 0], w1, ?_, Ex.refl _ _, rfl, by simpa using hJ⟩
              go_simp
            · intro o ho ρ yl w1 hx hc hf hgl hp hb bp bq jv hJ hjp hjq
              simp only [List.getElem?_toArray, List.getElem?_cons_succ, List.getElem?_cons_zero, Option.some.injEq] at ho
              subst ho
              have hx := ((Ex.refl (fun b : Nat => b = (w.heap.size + 2) ∨ b = w.heap.size ∨ b = (w.heap.size + 1)) wr).drew).trans hx (fun _ h => .inl h)
              obtain ⟨v10, s10, e10, y10⟩ := hp 10 (by kernel_rfl)
              have e10 := e10 47 rfl
              obtain rfl : v10 = (.tuple #[.agg #[.int .u8 0, .int .i64 0, .string ⟨#[]⟩, .slice none 0 0, .int .i64 0], .bool false, .int .i64 0]) := s10
              clear y10
              clear hp hb
              refine wantL rfl ⟨.agg #[.int .u8 0, .int .i64 0, .string ⟨#[]⟩, .slice none 0 0, .int .i64 0], w1, ?_, Ex.refl _ _, rfl, by simpa using hJ⟩
              go_simp
            · exact absurd hnl (by decide)
            · exact absurd hnl (by decide)
            · intro o ho ρ yl w1 hx hc hf hgl hp hb bp bq jv hJ hjp hjq
              simp only [List.getElem?_toArray, List.getElem?_cons_succ, List.getElem?_cons_zero, Option.some.injEq] at ho
              subst ho
              have hx := ((Ex.refl (fun b : Nat => b = (w.heap.size + 2) ∨ b = w.heap.size ∨ b = (w.heap.size + 1)) wr).drew).trans hx (fun _ h => .inl h)
              clear hp hb
              have hjq := hjq rfl
              subst hjq
              refine wantL rfl ⟨_, _, exec_value (s := Instr.alloc 27 true (.tuple #[])) rfl (alloc27 w1), (Ex.refl _ _).alloc _, ⟨w1.heap.size, rfl, hx.size, blk_new1 _ _⟩, ?_⟩
              have h9 := JP.alloc hJ hx (fun T2 w w' h hx => h.ex hx (fun _ _ h => h))
              simpa [dstOf] using h9
          · intro i hil
            obtain rfl | rfl : i = 12 ∨ i = 13 := by simpa using hil
            · intro o ho ρ yl w1 hx hc hf hgl hp hb
              simp only [List.getElem?_toArray, List.getElem?_cons_succ, List.getElem?_cons_zero, Option.some.injEq] at ho
              subst ho
              have hx := ((Ex.refl (fun b : Nat => b = (w.heap.size + 2) ∨ b = w.heap.size ∨ b = (w.heap.size + 1)) wr).drew).trans hx (fun _ h => .inl h)
              obtain ⟨v10, s10, e10, y10⟩ := hp 10 (by kernel_rfl)
              have e10 := e10 47 rfl
              obtain rfl : v10 = (.tuple #[.agg #[.int .u8 0, .int .i64 0, .string ⟨#[]⟩, .slice none 0 0, .int .i64 0], .bool false, .int .i64 0]) := s10
              clear y10
              clear hp hb
              refine ⟨.bool false, .inl ⟨rfl, fun w' => ?_⟩, rfl⟩
              go_simp
            · intro o ho ρ yl w1 hx hc hf hgl hp hb
              simp only [List.getElem?_toArray, List.getElem?_cons_succ, List.getElem?_cons_zero, Option.some.injEq] at ho
              subst ho
              have hx := ((Ex.refl (fun b : Nat => b = (w.heap.size + 2) ∨ b = w.heap.size ∨ b = (w.heap.size + 1)) wr).drew).trans hx (fun _ h => .inl h)
              obtain ⟨v10, s10, e10, y10⟩ := hp 10 (by kernel_rfl)
              have e10 := e10 47 rfl
              obtain rfl : v10 = (.tuple #[.agg #[.int .u8 0, .int .i64 0, .string ⟨#[]⟩, .slice none 0 0, .int .i64 0], .bool false, .int .i64 0]) := s10
              clear y10
              clear hp hb
              refine ⟨.int .i64 0, .inl ⟨rfl, fun w' => ?_⟩, rfl⟩
              go_simp
          · intro xs w1 hx hs hJJ KQ hKK
            have s0 : xs 0 = (.pointer (some ⟨(w.heap.size + 2), 0, none⟩)) := hs 0 (by omega)
            have s1 : xs 1 = (.slice (some ad) K.length ca) := hs 1 (by omega)
            have s2 : xs 2 = (.int .i64 i) := hs 2 (by omega)
            have s3 : xs 3 = (.pointer (some (ad.add (i * 5)))) := hs 3 (by omega)
            have s4 : xs 4 = (.agg #[.int .u8 kx.f0, .int .i64 kx.f1, .string kx.f2, .slice A3 kx.f3.length c3, .int .i64 kx.f4]) := hs 4 (by omega)
            have s5 : xs 5 = (.slice (some bd) V.length cb) := hs 5 (by omega)
            have s6 : xs 6 = (.int .i64 i) := hs 6 (by omega)
            have s7 : xs 7 = (.pointer (some (bd.add (i * 5)))) := hs 7 (by omega)
            have s8 : xs 8 = (.agg #[.int .u8 vx.f0, .int .i64 vx.f1, .string vx.f2, .slice B3 vx.f3.length d3, .int .i64 vx.f4]) := hs 8 (by omega)
            have s9 : xs 9 = (.tuple #[.agg #[.int .u8 0, .int .i64 0, .string ⟨#[]⟩, .slice none 0 0, .int .i64 0], .bool false, .int .i64 0]) := hs 9 (by omega)
            have s10 : xs 10 = (.tuple #[.agg #[.int .u8 0, .int .i64 0, .string ⟨#[]⟩, .slice none 0 0, .int .i64 0], .bool false, .int .i64 0]) := hs 10 (by omega)
            have s11 : xs 11 = (.agg #[.int .u8 0, .int .i64 0, .string ⟨#[]⟩, .slice none 0 0, .int .i64 0]) := hs 11 (by omega)
            have s12 : xs 12 = (.bool false) := hs 12 (by omega)
            have s13 : xs 13 = (.int .i64 0) := hs 13 (by omega)
            have s14 : (At wr.heap.size ZB) (xs 14) w1 := hs 14 (by omega)
            clear hs
            simp only [putSlots, dstOf, List.getElem?_toArray, List.getElem?_cons_succ, List.getElem?_cons_zero, Option.bind_some, List.setIfInBounds_toArray, List.set_cons_zero, List.set_cons_succ, List.drop_succ_cons, List.drop_zero]
            rw [s0, s1, s2, s3, s4, s5, s6, s7, s8, s9, s10, s11, s12, s13]
            clear s0 s1 s2 s3 s4 s5 s6 s7 s8 s9 s10 s11 s12 s13
            obtain ⟨g8, hg8, hlo, hb8⟩ := s14
            rw [hg8]
            have hJJ := hJJ (show (9 : Nat) < 15 from by decide)
            rw [if_pos (by rfl), hg8] at hJJ
            have HB8 := Aside0.mk hb8
            have HLO := Aside0.mk hlo
            have HX1 := Aside0.mk hx
            have HJJ := Aside0.mk hJJ
            have q8c0 := (blk_cell hb8 0).trans rfl
            have q8f0 := blk_frozen hb8 0
            have q8c1 := (blk_cell hb8 1).trans rfl
            have q8f1 := blk_frozen hb8 1
            have q8c2 := (blk_cell hb8 2).trans rfl
            have q8f2 := blk_frozen hb8 2
            have q8c3 := (blk_cell hb8 3).trans rfl
            have q8f3 := blk_frozen hb8 3
            have q8c4 := (blk_cell hb8 4).trans rfl
            have q8f4 := blk_frozen hb8 4
            have q8l := lt_of_blk hb8
            clear hg8 hb8 hx hlo hJJ
            go_wp2_with fail
            go_meet
            obtain ⟨g', T2, hgg, _, _, hr, _, hng⟩ := HJJ.out
            cases hgg
            exact ⟨rfl, rfl, ⟨ex_put27 HX1.out (.inr HLO.out) _ _ _ _ _⟩, ⟨T2, hr.ex (ex_put27 (Ex.refl (fun b => b = g8) _) (.inl rfl) _ _ _ _ _) (fun b hb e => hng (e ▸ hb))⟩⟩
        case rest =>
          obtain ⟨rfl, rfl, HXA, HRA⟩ := hcut
          obtain ⟨gko, rfl⟩ : ∃ n : Nat, n = gk := ⟨_, rfl⟩
          obtain ⟨hv6, hmet⟩ := HM6.out
          subst hv6
          clear hmet HM6
          obtain ⟨T2, r, hr1, hr2, hr3, ht, hT2⟩ := HRA.out
          have HRR := Aside0.mk (And.intro hr1 (And.intro hr2 hr3))
          clear hr1 hr2 hr3
          have HTT := Aside0.mk (ht.mono hT2)
          have HD := Aside0.mk (HH.out.turned HXA.out HTT.out)
          clear ht hT2 HRA
          go_wp2_with fail
          go_loopg [11, 12] es.length (fun m v11 v12 wi => ∃ k : Nat, v12 = .int .i64 k ∧ v11 = .bool (wasB (es.take k) kx) ∧ Aside0 (k + m = es.length) ∧ Aside0 (Ex (fun _ => False) wc wi))
          case atStart => exact ⟨0, rfl, by simp [wasB], ⟨by omega⟩, ⟨Ex.refl _ _⟩⟩
          case round =>
            obtain ⟨k, rfl, rfl, HKM, HI⟩ := hrel
            by_cases hk : k < es.length
            · obtain ⟨e, hek⟩ : ∃ e, es[k]? = some e := ⟨_, List.getElem?_eq_getElem hk⟩
              obtain ⟨M', cm', he6, _, hmm⟩ := own_slice (mine_ex0 HD.out.1 HI.out)
              cases he6
              obtain ⟨gm, hM, hown, hge, hce⟩ := hmm k e hek
              have HEG := Aside0.mk (HD.out.2.1 e (List.mem_of_getElem? hek))
              have HNX := Aside0.mk (wasB_next hek kx)
              have HLE := Aside0.mk (HH.out.lens (List.mem_of_getElem? hek))
              have HCE := Aside0.mk hce
              have HCE := Aside0.mk hce
              clear hmm hown hge hce hek
              subst hM
              have hkk : (k : Int) < (es.length : Int) := by omega
              have hk0 : (0 : Int) ≤ (k : Int) := by omega
              have hkb : k < 100 := by have h1 := HH.out.few; have h2 := HKL.out; omega
              cases hb : wasB (es.take k) kx with
              | true =>
                have HBT := Aside0.mk hb
                clear hb
                go_wp2_with fail
                go_quiet (fail)
                go_wp2_with fail
                go_roundg (gk - 1)
                case measure => have := HKM.out; omega
                case rel => exact ⟨k + 1, by go_num, by rw [HNX.out, HBT.out]; rfl, ⟨by have := HKM.out; omega⟩, ⟨HI.out.trans ((Ex.refl (fun _ => False) _).drewN _) (fun _ h => h.elim)⟩⟩
              | false =>
                have HBF := Aside0.mk hb
                clear hb
                go_upto_region 14 with (fail)
                refine region_by 12 [] (specL [Is (.bool false), Is (.bool false), Is (.slice (some ⟨gm, 0, none⟩) es.length cm), Is (.int .i64 k), Is (.pointer (some ⟨gm, k * 5, none⟩)), Is (.agg #[.int .u8 e.x.f0, .int .i64 e.x.f1, .string e.x.f2, .slice e.A e.x.f3.length e.c, .int .i64 e.x.f4]), Is (.slice (some ad) K.length ca), Is (.int .i64 i), Is (.pointer (some (ad.add (i * 5)))), Is (.agg #[.int .u8 kx.f0, .int .i64 kx.f1, .string kx.f2, .slice A3 kx.f3.length c3, .int .i64 kx.f4]), Is (.bool (eqV e.x kx)), Is (.bool (eqV e.x kx))]) (by decide) (by decide) (by kernel_rfl) (by kernel_rfl) (stab_all (stab_cons (stab_is _) (stab_cons (stab_is _) (stab_cons (stab_is _) (stab_cons (stab_is _) (stab_cons (stab_is _) (stab_cons (stab_is _) (stab_cons (stab_is _) (stab_cons (stab_is _) (stab_cons (stab_is _) (stab_cons (stab_is _) (stab_cons (stab_is _) (stab_cons (stab_is _) (stab_nil)))))))))))))) ?_ ?_ ?_
                · intro i hi hnl
                  obtain rfl | rfl | rfl | rfl | rfl | rfl | rfl | rfl | rfl | rfl | rfl | rfl : i = 0 ∨ i = 1 ∨ i = 2 ∨ i = 3 ∨ i = 4 ∨ i = 5 ∨ i = 6 ∨ i = 7 ∨ i = 8 ∨ i = 9 ∨ i = 10 ∨ i = 11 := by omega
                  · intro o ho ρ yl w1 hx hc hf hgl hp hb
                    simp only [List.getElem?_toArray, List.getElem?_cons_succ, List.getElem?_cons_zero, Option.some.injEq] at ho
                    subst ho
                    have hx := ((Ex.refl (fun _ => False) wr).drew).trans hx (fun _ h => h.elim)
                    have b11 := hb 11 (by kernel_rfl)
                    clear hp hb
                    refine wantL rfl ⟨.bool false, w1, ?_, Ex.refl _ _, rfl⟩
                    go_simp
                  · intro o ho ρ yl w1 hx hc hf hgl hp hb
                    simp only [List.getElem?_toArray, List.getElem?_cons_succ, List.getElem?_cons_zero, Option.some.injEq] at ho
                    subst ho
                    have hx := ((Ex.refl (fun _ => False) wr).drew).trans hx (fun _ h => h.elim)
                    obtain ⟨v0, s0, e0, y0⟩ := hp 0 (by kernel_rfl)
                    have e0 := e0 69 rfl
                    obtain rfl : v0 = (.bool false) := s0
                    clear y0
                    clear hp hb
                    refine wantL rfl ⟨.bool false, w1, ?_, Ex.refl _ _, rfl⟩
                    go_simp
                  · intro o ho ρ yl w1 hx hc hf hgl hp hb
                    simp only [List.getElem?_toArray, List.getElem?_cons_succ, List.getElem?_cons_zero, Option.some.injEq] at ho
                    subst ho
                    have hx := ((Ex.refl (fun _ => False) wr).drew).trans hx (fun _ h => h.elim)
                    obtain ⟨v1, s1, e1, y1⟩ := hp 1 (by kernel_rfl)
                    have e1 := e1 70 rfl
                    obtain rfl : v1 = (.bool false) := s1
                    have y1 := y1 rfl
                    have b6 := hb 6 (by kernel_rfl)
                    clear hp hb
                    refine wantL (by simp [Region.wanted, y1]) ⟨.slice (some ⟨gm, 0, none⟩) es.length cm, w1, ?_, Ex.refl _ _, rfl⟩
                    go_simp
                  · intro o ho ρ yl w1 hx hc hf hgl hp hb
                    simp only [List.getElem?_toArray, List.getElem?_cons_succ, List.getElem?_cons_zero, Option.some.injEq] at ho
                    subst ho
                    have hx := ((Ex.refl (fun _ => False) wr).drew).trans hx (fun _ h => h.elim)
                    obtain ⟨v1, s1, e1, y1⟩ := hp 1 (by kernel_rfl)
                    have e1 := e1 70 rfl
                    obtain rfl : v1 = (.bool false) := s1
                    have y1 := y1 rfl
                    have b12 := hb 12 (by kernel_rfl)
                    clear hp hb
                    refine wantL (by simp [Region.wanted, y1]) ⟨.int .i64 k, w1, ?_, Ex.refl _ _, rfl⟩
                    go_simp
                  · intro o ho ρ yl w1 hx hc hf hgl hp hb
                    simp only [List.getElem?_toArray, List.getElem?_cons_succ, List.getElem?_cons_zero, Option.some.injEq] at ho
                    subst ho
                    have hx := ((Ex.refl (fun _ => False) wr).drew).trans hx (fun _ h => h.elim)
                    obtain ⟨v2, s2, e2, y2⟩ := hp 2 (by kernel_rfl)
                    have e2 := e2 71 rfl
                    obtain rfl : v2 = (.slice (some ⟨gm, 0, none⟩) es.length cm) := s2
                    clear y2
                    obtain ⟨v3, s3, e3, y3⟩ := hp 3 (by kernel_rfl)
                    have e3 := e3 72 rfl
                    obtain rfl : v3 = (.int .i64 k) := s3
                    clear y3
                    obtain ⟨v1, s1, e1, y1⟩ := hp 1 (by kernel_rfl)
                    have e1 := e1 70 rfl
                    obtain rfl : v1 = (.bool false) := s1
                    have y1 := y1 rfl
                    clear hp hb
                    refine wantL (by simp [Region.wanted, y1]) ⟨.pointer (some ⟨gm, k * 5, none⟩), w1, ?_, Ex.refl _ _, rfl⟩
                    go_simp
                  · intro o ho ρ yl w1 hx hc hf hgl hp hb
                    simp only [List.getElem?_toArray, List.getElem?_cons_succ, List.getElem?_cons_zero, Option.some.injEq] at ho
                    subst ho
                    have hx := ((Ex.refl (fun _ => False) wr).drew).trans hx (fun _ h => h.elim)
                    obtain ⟨v4, s4, e4, y4⟩ := hp 4 (by kernel_rfl)
                    have e4 := e4 73 rfl
                    obtain rfl : v4 = (.pointer (some ⟨gm, k * 5, none⟩)) := s4
                    clear y4
                    obtain ⟨v1, s1, e1, y1⟩ := hp 1 (by kernel_rfl)
                    have e1 := e1 70 rfl
                    obtain rfl : v1 = (.bool false) := s1
                    have y1 := y1 rfl
                    clear hp hb
                    have hlg := block_lt_of_cell (HCE.out 0 _ rfl)
                    have h0 : w1.cell? ⟨gm, k * 5, none⟩ = some (.int .u8 e.x.f0) := (hx.cell hlg (fun h => h) _).trans (HCE.out 0 _ rfl)
                    have h1 : w1.cell? ⟨gm, k * 5 + 1, none⟩ = some (.int .i64 e.x.f1) := (hx.cell hlg (fun h => h) _).trans (HCE.out 1 _ rfl)
                    have h2 : w1.cell? ⟨gm, k * 5 + 2, none⟩ = some (.string e.x.f2) := (hx.cell hlg (fun h => h) _).trans (HCE.out 2 _ rfl)
                    have h3 : w1.cell? ⟨gm, k * 5 + 3, none⟩ = some (.slice e.A e.x.f3.length e.c) := (hx.cell hlg (fun h => h) _).trans (HCE.out 3 _ rfl)
                    have h4 : w1.cell? ⟨gm, k * 5 + 4, none⟩ = some (.int .i64 e.x.f4) := (hx.cell hlg (fun h => h) _).trans (HCE.out 4 _ rfl)
                    refine wantL (by simp [Region.wanted, y1]) ⟨.agg #[.int .u8 e.x.f0, .int .i64 e.x.f1, .string e.x.f2, .slice e.A e.x.f3.length e.c, .int .i64 e.x.f4], w1, ?_, Ex.refl _ _, rfl⟩
                    go_simp
                  · intro o ho ρ yl w1 hx hc hf hgl hp hb
                    simp only [List.getElem?_toArray, List.getElem?_cons_succ, List.getElem?_cons_zero, Option.some.injEq] at ho
                    subst ho
                    have hx := ((Ex.refl (fun _ => False) wr).drew).trans hx (fun _ h => h.elim)
                    obtain ⟨v1, s1, e1, y1⟩ := hp 1 (by kernel_rfl)
                    have e1 := e1 70 rfl
                    obtain rfl : v1 = (.bool false) := s1
                    have y1 := y1 rfl
                    have b0 := hb 0 (by kernel_rfl)
                    clear hp hb
                    refine wantL (by simp [Region.wanted, y1]) ⟨.slice (some ad) K.length ca, w1, ?_, Ex.refl _ _, rfl⟩
                    go_simp
                  · intro o ho ρ yl w1 hx hc hf hgl hp hb
                    simp only [List.getElem?_toArray, List.getElem?_cons_succ, List.getElem?_cons_zero, Option.some.injEq] at ho
                    subst ho
                    have hx := ((Ex.refl (fun _ => False) wr).drew).trans hx (fun _ h => h.elim)
                    obtain ⟨v1, s1, e1, y1⟩ := hp 1 (by kernel_rfl)
                    have e1 := e1 70 rfl
                    obtain rfl : v1 = (.bool false) := s1
                    have y1 := y1 rfl
                    have b7 := hb 7 (by kernel_rfl)
                    clear hp hb
                    refine wantL (by simp [Region.wanted, y1]) ⟨.int .i64 i, w1, ?_, Ex.refl _ _, rfl⟩
                    go_simp
                  · intro o ho ρ yl w1 hx hc hf hgl hp hb
                    simp only [List.getElem?_toArray, List.getElem?_cons_succ, List.getElem?_cons_zero, Option.some.injEq] at ho
                    subst ho
                    have hx := ((Ex.refl (fun _ => False) wr).drew).trans hx (fun _ h => h.elim)
                    obtain ⟨v6, s6, e6, y6⟩ := hp 6 (by kernel_rfl)
                    have e6 := e6 75 rfl
                    obtain rfl : v6 = (.slice (some ad) K.length ca) := s6
                    clear y6
                    obtain ⟨v7, s7, e7, y7⟩ := hp 7 (by kernel_rfl)
                    have e7 := e7 76 rfl
                    obtain rfl : v7 = (.int .i64 i) := s7
                    clear y7
                    obtain ⟨v1, s1, e1, y1⟩ := hp 1 (by kernel_rfl)
                    have e1 := e1 70 rfl
                    obtain rfl : v1 = (.bool false) := s1
                    have y1 := y1 rfl
                    clear hp hb
                    refine wantL (by simp [Region.wanted, y1]) ⟨.pointer (some (ad.add (i * 5))), w1, ?_, Ex.refl _ _, rfl⟩
                    go_simp
                  · intro o ho ρ yl w1 hx hc hf hgl hp hb
                    simp only [List.getElem?_toArray, List.getElem?_cons_succ, List.getElem?_cons_zero, Option.some.injEq] at ho
                    subst ho
                    have hx := ((Ex.refl (fun _ => False) wr).drew).trans hx (fun _ h => h.elim)
                    obtain ⟨v8, s8, e8, y8⟩ := hp 8 (by kernel_rfl)
                    have e8 := e8 77 rfl
                    obtain rfl : v8 = (.pointer (some (ad.add (i * 5)))) := s8
                    clear y8
                    obtain ⟨v1, s1, e1, y1⟩ := hp 1 (by kernel_rfl)
                    have e1 := e1 70 rfl
                    obtain rfl : v1 = (.bool false) := s1
                    have y1 := y1 rfl
                    clear hp hb
                    obtain ⟨h0, h1, h2, h3, h4⟩ := HCL.out _ w1 ((HXA.out.trans HI.out (fun _ h => h.elim)).trans hx (fun _ h => h.elim)) (by intro b hb hs; rcases hs with rfl | rfl | rfl <;> omega)
                    refine wantL (by simp [Region.wanted, y1]) ⟨.agg #[.int .u8 kx.f0, .int .i64 kx.f1, .string kx.f2, .slice A3 kx.f3.length c3, .int .i64 kx.f4], w1, ?_, Ex.refl _ _, rfl⟩
                    go_simp
                  · intro o ho ρ yl w1 hx hc hf hgl hp hb
                    simp only [List.getElem?_toArray, List.getElem?_cons_succ, List.getElem?_cons_zero, Option.some.injEq] at ho
                    subst ho
                    have hx := ((Ex.refl (fun _ => False) wr).drew).trans hx (fun _ h => h.elim)
                    obtain ⟨v5, s5, e5, y5⟩ := hp 5 (by kernel_rfl)
                    have e5 := e5 74 rfl
                    obtain rfl : v5 = (.agg #[.int .u8 e.x.f0, .int .i64 e.x.f1, .string e.x.f2, .slice e.A e.x.f3.length e.c, .int .i64 e.x.f4]) := s5
                    clear y5
                    obtain ⟨v9, s9, e9, y9⟩ := hp 9 (by kernel_rfl)
                    have e9 := e9 78 rfl
                    obtain rfl : v9 = (.agg #[.int .u8 kx.f0, .int .i64 kx.f1, .string kx.f2, .slice A3 kx.f3.length c3, .int .i64 kx.f4]) := s9
                    clear y9
                    obtain ⟨v1, s1, e1, y1⟩ := hp 1 (by kernel_rfl)
                    have e1 := e1 70 rfl
                    obtain rfl : v1 = (.bool false) := s1
                    have y1 := y1 rfl
                    clear hp hb
                    refine wantR (by simp [Region.wanted, y1]) ⟨16, #[.agg #[.int .u8 e.x.f0, .int .i64 e.x.f1, .string e.x.f2, .slice e.A e.x.f3.length e.c, .int .i64 e.x.f4], .agg #[.int .u8 kx.f0, .int .i64 kx.f1, .string kx.f2, .slice A3 kx.f3.length c3, .int .i64 kx.f4]], exec_call' Try.func16 (by kernel_rfl) rfl _ rfl (by simp [e5, e9]) (hf 16), ?_⟩
                    refine (alike_calls e.x kx e.A A3 e.c c3 _ HEG.out.le (Kd.F_now (ex_F (HI.out.trans hx (fun _ h => h.elim)) HEG.out.F (fun _ _ h => h))) HC3.out.1 (Kd.F_now (ex_F ((HXA.out.trans HI.out (fun _ h => h.elim)).trans hx (fun _ h => h.elim)) HF3.out (by intro b hb hs; rcases hs with rfl | rfl | rfl <;> omega))) HLE.out).mono ?_
                    rintro e' wq ⟨rfl, hq0⟩
                    exact ⟨_, rfl, Ex.of_below hq0, rfl⟩
                  · intro o ho ρ yl w1 hx hc hf hgl hp hb
                    simp only [List.getElem?_toArray, List.getElem?_cons_succ, List.getElem?_cons_zero, Option.some.injEq] at ho
                    subst ho
                    have hx := ((Ex.refl (fun _ => False) wr).drew).trans hx (fun _ h => h.elim)
                    obtain ⟨v1, s1, e1, y1⟩ := hp 1 (by kernel_rfl)
                    have e1 := e1 70 rfl
                    obtain rfl : v1 = (.bool false) := s1
                    clear y1
                    obtain ⟨v10, s10, e10, y10⟩ := hp 10 (by kernel_rfl)
                    have e10 := e10 79 rfl
                    obtain rfl : v10 = (.bool (eqV e.x kx)) := s10
                    clear y10
                    clear hp hb
                    refine wantL rfl ⟨.bool (eqV e.x kx), w1, ?_, Ex.refl _ _, rfl⟩
                    go_simp
                · intro i hil
                  exact absurd hil (by simp)
                · intro xs w1 hx hs KQ hKK
                  have s0 : xs 0 = (.bool false) := hs 0 (by omega)
                  have s1 : xs 1 = (.bool false) := hs 1 (by omega)
                  have s2 : xs 2 = (.slice (some ⟨gm, 0, none⟩) es.length cm) := hs 2 (by omega)
                  have s3 : xs 3 = (.int .i64 k) := hs 3 (by omega)
                  have s4 : xs 4 = (.pointer (some ⟨gm, k * 5, none⟩)) := hs 4 (by omega)
                  have s5 : xs 5 = (.agg #[.int .u8 e.x.f0, .int .i64 e.x.f1, .string e.x.f2, .slice e.A e.x.f3.length e.c, .int .i64 e.x.f4]) := hs 5 (by omega)
                  have s6 : xs 6 = (.slice (some ad) K.length ca) := hs 6 (by omega)
                  have s7 : xs 7 = (.int .i64 i) := hs 7 (by omega)
                  have s8 : xs 8 = (.pointer (some (ad.add (i * 5)))) := hs 8 (by omega)
                  have s9 : xs 9 = (.agg #[.int .u8 kx.f0, .int .i64 kx.f1, .string kx.f2, .slice A3 kx.f3.length c3, .int .i64 kx.f4]) := hs 9 (by omega)
                  have s10 : xs 10 = (.bool (eqV e.x kx)) := hs 10 (by omega)
                  have s11 : xs 11 = (.bool (eqV e.x kx)) := hs 11 (by omega)
                  clear hs
                  simp only [putSlots, dstOf, List.getElem?_toArray, List.getElem?_cons_succ, List.getElem?_cons_zero, Option.bind_some, List.setIfInBounds_toArray, List.set_cons_zero, List.set_cons_succ, List.drop_succ_cons, List.drop_zero]
                  rw [s0, s1, s2, s3, s4, s5, s6, s7, s8, s9, s10, s11]
                  clear s0 s1 s2 s3 s4 s5 s6 s7 s8 s9 s10 s11
                  have HX1 := Aside0.mk hx
                  clear hx
                  go_wp2_with fail
                  go_roundg (gk - 1)
                  case measure => have := HKM.out; omega
                  case rel => exact ⟨k + 1, by go_num, by rw [HNX.out, HBF.out]; rfl, ⟨by have := HKM.out; omega⟩, ⟨HI.out.trans HX1.out (fun _ h => h.elim)⟩⟩
            · have hkk : ¬ (k : Int) < (es.length : Int) := by omega
              have hw : wasB (es.take k) kx = false := by
                rw [List.take_of_length_le (by omega)]
                cases hb : wasB es kx with
                | false => rfl
                | true =>
                  exfalso
                  have h1 := wasB_all.1 hb
                  rw [HH.out.keys] at h1
                  obtain ⟨r', hr', hk'⟩ := List.mem_map.1 h1
                  exact HCC.out.2.2.2.2 (List.mem_map.2 ⟨r', hr', (row_key HH.out.tab HCC.out.2.2.1 HCC.out.1 HCC.out.2.2.2.1 hr').2 hk'⟩)
              rw [hw]
              clear hw
              obtain ⟨h0, h1, h2, h3, h4⟩ := HCL.out _ wr (HXA.out.trans HI.out (fun _ h => h.elim)) (by intro b hb hs; rcases hs with rfl | rfl | rfl <;> omega)
              have HOW := Aside0.mk (mine_ex0 HD.out.1 HI.out)
              have HHS := Aside0.mk (show w.heap.size ≤ wr.heap.size from Nat.le_trans HD.out.2.2.2.2.size HI.out.size)
              have HLL := Aside0.mk (show (es.length + 1) * 64 ≤ 140737488355328 by have h1 := HH.out.few; have h2 := HKL.out; omega)
              go_wp2_with (at_builtin; refine print_append_cells (w0 := wr) w.heap.size rfl _ _ 24 27 (.agg #[(.int .u8 0), (.int .i64 0), (.string ⟨#[]⟩), (.slice none 0 0), (.int .i64 0)]) 5 64 rfl Try.underlying24 info27 rfl (by decide) (by decide) (.slice M es.length cm) es.length (es.flatMap El.cells) [.int .u8 kx.f0, .int .i64 kx.f1, .string kx.f2, .slice A3 kx.f3.length c3, .int .i64 kx.f4] rfl rfl rfl (by simp [Value.oneCell']) HOW.out (Below.refl _ _) HHS.out HLL.out ?_; intro v7 w3 hown hbel hgr hat; have HOWN := Aside0.mk hown; have HBEL := Aside0.mk hbel; have HGRO := Aside0.mk hgr; have HATT := Aside0.mk hat; clear hown hbel hgr hat h0 h1 h2 h3 h4)
              go_roundg (gko - 1)
              case measure => have := HM.out; omega
              case rel => exact ⟨i + 1, es ++ [⟨kx, A3, c3⟩], rows ++ [r], came + 1, _, by go_num, ⟨by have := HM.out; omega⟩, ⟨HH.out.new (e := ⟨kx, A3, c3⟩) HXA.out HKX.out.1 HKX.out.2 HCC.out.1 HCC.out.2.1 HCC.out.2.2.1 HCC.out.2.2.2.1 HCC.out.2.2.2.2 HRR.out.2.1 HRR.out.2.2 HTT.out HI.out rfl ⟨HC3.out.1, ex_F (HXA.out.trans HI.out (fun _ h => h.elim)) HF3.out (by intro b hb hs; rcases hs with rfl | rfl | rfl <;> omega)⟩ HOWN.out HGRO.out ⟨HBEL.out.os.symm, HBEL.out.tape.symm, HBEL.out.output.symm⟩ HATT.out⟩⟩
      · skip
        have HCC := Aside0.mk (And.intro hmk (And.intro hmv (And.intro hmo (And.intro hmkey (And.intro hrj hrm)))))
        clear hmk hmv hmo hmkey hrj hrm
        have HLT := Aside0.mk (show w.heap.size + 2 < wr.heap.size from lt_of_blk HH.out.tab.hg)
        go_upto_region 8 with (fail)
        go_cut [8, 9, 10] from 47 to 60 (fun s8 s9 s10 wx => s9 = .bool true ∧ s10 = .int .i64 0 ∧ Aside0 (Ex (fun b : Nat => b = (w.heap.size + 2) ∨ b = w.heap.size ∨ b = (w.heap.size + 1)) wr wx) ∧ Aside0 (∃ T2, (ROld vx j r (w.heap.size + 2) w.heap.size (w.heap.size + 1) rows came wr.heap.size T) T2 wx))
        case first =>
          refine region_byJ 15 [12, 13] (specL [Is (.pointer (some ⟨(w.heap.size + 2), 0, none⟩)), Is (.slice (some ad) K.length ca), Is (.int .i64 i), Is (.pointer (some (ad.add (i * 5)))), Is (.agg #[.int .u8 kx.f0, .int .i64 kx.f1, .string kx.f2, .slice A3 kx.f3.length c3, .int .i64 kx.f4]), Is (.slice (some bd) V.length cb), Is (.int .i64 i), Is (.pointer (some (bd.add (i * 5)))), Is (.agg #[.int .u8 vx.f0, .int .i64 vx.f1, .string vx.f2, .slice B3 vx.f3.length d3, .int .i64 vx.f4]), Is (.tuple #[.agg #[.int .u8 r.v.f0, .int .i64 r.v.f1, .string r.v.f2, .slice r.B r.v.f3.length r.cb, .int .i64 r.v.f4], .bool true, .int .i64 0]), Is (.tuple #[.agg #[.int .u8 r.v.f0, .int .i64 r.v.f1, .string r.v.f2, .slice r.B r.v.f3.length r.cb, .int .i64 r.v.f4], .bool true, .int .i64 0]), Is (.agg #[.int .u8 r.v.f0, .int .i64 r.v.f1, .string r.v.f2, .slice r.B r.v.f3.length r.cb, .int .i64 r.v.f4]), Is (.bool true), Is (.int .i64 0), At wr.heap.size ZB]) ⟨9, 14, JP wr (ROld vx j r (w.heap.size + 2) w.heap.size (w.heap.size + 1) rows came wr.heap.size T)⟩ (show (14 : Nat) < 15 from by decide) (show (9 : Nat) ∉ [12, 13] ∧ (14 : Nat) ∉ [12, 13] from by decide) (by kernel_rfl) (by kernel_rfl) (fun b : Nat => b = (w.heap.size + 2) ∨ b = w.heap.size ∨ b = (w.heap.size + 1)) (only 9 (fun b : Nat => b = (w.heap.size + 2) ∨ b = w.heap.size ∨ b = (w.heap.size + 1))) (fun _ _ h => h.2) (stabS_all 9 (stab_cons (stab_is _) (stab_cons (stab_is _) (stab_cons (stab_is _) (stab_cons (stab_is _) (stab_cons (stab_is _) (stab_cons (stab_is _) (stab_cons (stab_is _) (stab_cons (stab_is _) (stab_cons (stab_is _) (stab_cons (stab_is _) (stab_cons (stab_is _) (stab_cons (stab_is _) (stab_cons (stab_is _) (stab_cons (stab_is _) (stab_cons (stab_at _ _) (stab_nil)))))))))))))))) (stabS_start (stabS_cons (fun _ => stabS_is _ _) (stabS_cons (fun _ => stabS_is _ _) (stabS_cons (fun _ => stabS_is _ _) (stabS_cons (fun _ => stabS_is _ _) (stabS_cons (fun _ => stabS_is _ _) (stabS_cons (fun _ => stabS_is _ _) (stabS_cons (fun _ => stabS_is _ _) (stabS_cons (fun _ => stabS_is _ _) (stabS_cons (fun _ => stabS_is _ _) (stabS_cons (fun h => absurd rfl h) (stabS_cons (fun _ => stabS_is _ _) (stabS_cons (fun _ => stabS_is _ _) (stabS_cons (fun _ => stabS_is _ _) (stabS_cons (fun _ => stabS_is _ _) (stabS_cons (fun _ => stabS_at _ _ _ (fun b hb => by rcases hb with rfl | rfl | rfl <;> (have := HLT.out; omega))) (stabS_nil _ _ _)))))))))))))))))) ?_ ?_ ((Ex.refl _ _).drew) ?_
          · intro i hi hnl
            obtain rfl | rfl | rfl | rfl | rfl | rfl | rfl | rfl | rfl | rfl | rfl | rfl | rfl | rfl | rfl : i = 0 ∨ i = 1 ∨ i = 2 ∨ i = 3 ∨ i = 4 ∨ i = 5 ∨ i = 6 ∨ i = 7 ∨ i = 8 ∨ i = 9 ∨ i = 10 ∨ i = 11 ∨ i = 12 ∨ i = 13 ∨ i = 14 := by omega
            · intro o ho ρ yl w1 hx hc hf hgl hp hb bp bq jv hJ hjp hjq
              simp only [List.getElem?_toArray, List.getElem?_cons_succ, List.getElem?_cons_zero, Option.some.injEq] at ho
              subst ho
              have hx := ((Ex.refl (fun b : Nat => b = (w.heap.size + 2) ∨ b = w.heap.size ∨ b = (w.heap.size + 1)) wr).drew).trans hx (fun _ h => .inl h)
              have b5 := hb 5 (by kernel_rfl)
              clear hp hb
              refine wantL rfl ⟨.pointer (some ⟨(w.heap.size + 2), 0, none⟩), w1, ?_, Ex.refl _ _, rfl, by simpa using hJ⟩
              go_simp
            · intro o ho ρ yl w1 hx hc hf hgl hp hb bp bq jv hJ hjp hjq
              simp only [List.getElem?_toArray, List.getElem?_cons_succ, List.getElem?_cons_zero, Option.some.injEq] at ho
              subst ho
              have hx := ((Ex.refl (fun b : Nat => b = (w.heap.size + 2) ∨ b = w.heap.size ∨ b = (w.heap.size + 1)) wr).drew).trans hx (fun _ h => .inl h)
              have b0 := hb 0 (by kernel_rfl)
              clear hp hb
              refine wantL rfl ⟨.slice (some ad) K.length ca, w1, ?_, Ex.refl _ _, rfl, by simpa using hJ⟩
              go_simp
            · intro o ho ρ yl w1 hx hc hf hgl hp hb bp bq jv hJ hjp hjq
              simp only [List.getElem?_toArray, List.getElem?_cons_succ, List.getElem?_cons_zero, Option.some.injEq] at ho
              subst ho
              have hx := ((Ex.refl (fun b : Nat => b = (w.heap.size + 2) ∨ b = w.heap.size ∨ b = (w.heap.size + 1)) wr).drew).trans hx (fun _ h => .inl h)
              have b7 := hb 7 (by kernel_rfl)
              clear hp hb
              refine wantL rfl ⟨.int .i64 i, w1, ?_, Ex.refl _ _, rfl, by simpa using hJ⟩
              go_simp
            · intro o ho ρ yl w1 hx hc hf hgl hp hb bp bq jv hJ hjp hjq
              simp only [List.getElem?_toArray, List.getElem?_cons_succ, List.getElem?_cons_zero, Option.some.injEq] at ho
              subst ho
              have hx := ((Ex.refl (fun b : Nat => b = (w.heap.size + 2) ∨ b = w.heap.size ∨ b = (w.heap.size + 1)) wr).drew).trans hx (fun _ h => .inl h)
              obtain ⟨v1, s1, e1, y1⟩ := hp 1 (by kernel_rfl)
              have e1 := e1 49 rfl
              obtain rfl : v1 = (.slice (some ad) K.length ca) := s1
              clear y1
              obtain ⟨v2, s2, e2, y2⟩ := hp 2 (by kernel_rfl)
              have e2 := e2 50 rfl
              obtain rfl : v2 = (.int .i64 i) := s2
              clear y2
              clear hp hb
              refine wantL rfl ⟨.pointer (some (ad.add (i * 5))), w1, ?_, Ex.refl _ _, rfl, by simpa using hJ⟩
              go_simp
            · intro o ho ρ yl w1 hx hc hf hgl hp hb bp bq jv hJ hjp hjq
              simp only [List.getElem?_toArray, List.getElem?_cons_succ, List.getElem?_cons_zero, Option.some.injEq] at ho
              subst ho
              have hx := ((Ex.refl (fun b : Nat => b = (w.heap.size + 2) ∨ b = w.heap.size ∨ b = (w.heap.size + 1)) wr).drew).trans hx (fun _ h => .inl h)
              obtain ⟨v3, s3, e3, y3⟩ := hp 3 (by kernel_rfl)
              have e3 := e3 51 rfl
              obtain rfl : v3 = (.pointer (some (ad.add (i * 5)))) := s3
              clear y3
              clear hp hb
              obtain ⟨h0, h1, h2, h3, h4⟩ := HCL.out _ w1 hx (by intro b hb hs; rcases hs with rfl | rfl | rfl <;> omega)
              refine wantL rfl ⟨.agg #[.int .u8 kx.f0, .int .i64 kx.f1, .string kx.f2, .slice A3 kx.f3.length c3, .int .i64 kx.f4], w1, ?_, Ex.refl _ _, rfl, by simpa using hJ⟩
              go_simp
            · intro o ho ρ yl w1 hx hc hf hgl hp hb bp bq jv hJ hjp hjq
              simp only [List.getElem?_toArray, List.getElem?_cons_succ, List.getElem?_cons_zero, Option.some.injEq] at ho
              subst ho
              have hx := ((Ex.refl (fun b : Nat => b = (w.heap.size + 2) ∨ b = w.heap.size ∨ b = (w.heap.size + 1)) wr).drew).trans hx (fun _ h => .inl h)
              have b1 := hb 1 (by kernel_rfl)
              clear hp hb
              refine wantL rfl ⟨.slice (some bd) V.length cb, w1, ?_, Ex.refl _ _, rfl, by simpa using hJ⟩
              go_simp
            · intro o ho ρ yl w1 hx hc hf hgl hp hb bp bq jv hJ hjp hjq
              simp only [List.getElem?_toArray, List.getElem?_cons_succ, List.getElem?_cons_zero, Option.some.injEq] at ho
              subst ho
              have hx := ((Ex.refl (fun b : Nat => b = (w.heap.size + 2) ∨ b = w.heap.size ∨ b = (w.heap.size + 1)) wr).drew).trans hx (fun _ h => .inl h)
              have b7 := hb 7 (by kernel_rfl)
              clear hp hb
              refine wantL rfl ⟨.int .i64 i, w1, ?_, Ex.refl _ _, rfl, by simpa using hJ⟩
              go_simp
            · intro o ho ρ yl w1 hx hc hf hgl hp hb bp bq jv hJ hjp hjq
              simp only [List.getElem?_toArray, List.getElem?_cons_succ, List.getElem?_cons_zero, Option.some.injEq] at ho
              subst ho
              have hx := ((Ex.refl (fun b : Nat => b = (w.heap.size + 2) ∨ b = w.heap.size ∨ b = (w.heap.size + 1)) wr).drew).trans hx (fun _ h => .inl h)
              obtain ⟨v5, s5, e5, y5⟩ := hp 5 (by kernel_rfl)
              have e5 := e5 53 rfl
              obtain rfl : v5 = (.slice (some bd) V.length cb) := s5
              clear y5
              obtain ⟨v6, s6, e6, y6⟩ := hp 6 (by kernel_rfl)
              have e6 := e6 54 rfl
              obtain rfl : v6 = (.int .i64 i) := s6
              clear y6
              clear hp hb
              refine wantL rfl ⟨.pointer (some (bd.add (i * 5))), w1, ?_, Ex.refl _ _, rfl, by simpa using hJ⟩
              go_simp
            · intro o ho ρ yl w1 hx hc hf hgl hp hb bp bq jv hJ hjp hjq
              simp only [List.getElem?_toArray, List.getElem?_cons_succ, List.getElem?_cons_zero, Option.some.injEq] at ho
              subst ho
              have hx := ((Ex.refl (fun b : Nat => b = (w.heap.size + 2) ∨ b = w.heap.size ∨ b = (w.heap.size + 1)) wr).drew).trans hx (fun _ h => .inl h)
              obtain ⟨v7, s7, e7, y7⟩ := hp 7 (by kernel_rfl)
              have e7 := e7 55 rfl
              obtain rfl : v7 = (.pointer (some (bd.add (i * 5)))) := s7
              clear y7
              clear hp hb
              obtain ⟨h0, h1, h2, h3, h4⟩ := HDL.out _ w1 hx (by intro b hb hs; rcases hs with rfl | rfl | rfl <;> omega)
              refine wantL rfl ⟨.agg #[.int .u8 vx.f0, .int .i64 vx.f1, .string vx.f2, .slice B3 vx.f3.length d3, .int .i64 vx.f4], w1, ?_, Ex.refl _ _, rfl, by simpa using hJ⟩
              go_simp
            · intro o ho ρ yl w1 hx hc hf hgl hp hb bp bq jv hJ hjp hjq
              simp only [List.getElem?_toArray, List.getElem?_cons_succ, List.getElem?_cons_zero, Option.some.injEq] at ho
              subst ho
              have hx := ((Ex.refl (fun b : Nat => b = (w.heap.size + 2) ∨ b = w.heap.size ∨ b = (w.heap.size + 1)) wr).drew).trans hx (fun _ h => .inl h)
              obtain ⟨v0, s0, e0, y0⟩ := hp 0 (by kernel_rfl)
              have e0 := e0 48 rfl
              obtain rfl : v0 = (.pointer (some ⟨(w.heap.size + 2), 0, none⟩)) := s0
              clear y0
              obtain ⟨v4, s4, e4, y4⟩ := hp 4 (by kernel_rfl)
              have e4 := e4 52 rfl
              obtain rfl : v4 = (.agg #[.int .u8 kx.f0, .int .i64 kx.f1, .string kx.f2, .slice A3 kx.f3.length c3, .int .i64 kx.f4]) := s4
              clear y4
              obtain ⟨v8, s8, e8, y8⟩ := hp 8 (by kernel_rfl)
              have e8 := e8 56 rfl
              obtain rfl : v8 = (.agg #[.int .u8 vx.f0, .int .i64 vx.f1, .string vx.f2, .slice B3 vx.f3.length d3, .int .i64 vx.f4]) := s8
              clear y8
              clear hp hb
              refine wantR rfl ⟨15, #[.pointer (some ⟨(w.heap.size + 2), 0, none⟩), .agg #[.int .u8 kx.f0, .int .i64 kx.f1, .string kx.f2, .slice A3 kx.f3.length c3, .int .i64 kx.f4], .agg #[.int .u8 vx.f0, .int .i64 vx.f1, .string vx.f2, .slice B3 vx.f3.length d3, .int .i64 vx.f4]], exec_call' Try.func15 (by kernel_rfl) rfl _ rfl (by simp [e0, e4, e8]) (hf 15), ?_⟩
              have hjp := hjp rfl
              subst hjp
              have hb0 := JP.before hJ
              refine (put_isold kx vx A3 B3 c3 d3 (w.heap.size + 2) w.heap.size (w.heap.size + 1) T (fun k => k < w.heap.size) rows came _ (HH.out.tab.ex0 hb0) hcame HC3.out.1 HC3.out.2 (ex_F hb0 HF3.out (fun _ _ h => h)) (ex_F hb0 HG3.out (fun _ _ h => h)) (fun b hb hT => absurd (HH.out.foot b hT).1 (Nat.not_le.2 hb)) HCC.out.1 HCC.out.2.1 m HCC.out.2.2.1 HCC.out.2.2.2.1 j r HCC.out.2.2.2.2.1 HCC.out.2.2.2.2.2).mono ?_
              rintro e wq ⟨rfl, hq0, _, B5, d5, hr4⟩
              refine ⟨_, rfl, ex_the hq0, rfl, ?_⟩
              have h9 := JP.call (T := T) hJ (fun b hb => (HH.out.foot b hb).2.1) (fun b hb => by rcases hb with rfl | rfl | rfl <;> (have := HLT.out; omega)) hq0 (show ROld vx j r _ _ _ rows came wr.heap.size T _ wq from ⟨B5, d5, hr4.bound, fun b hb => hb.1.imp id (fun h => Nat.le_trans hb0.size h)⟩)
              simpa using h9
            · intro o ho ρ yl w1 hx hc hf hgl hp hb bp bq jv hJ hjp hjq
              simp only [List.getElem?_toArray, List.getElem?_cons_succ, List.getElem?_cons_zero, Option.some.injEq] at ho
              subst ho
              have hx := ((Ex.refl (fun b : Nat => b = (w.heap.size + 2) ∨ b = w.heap.size ∨ b = (w.heap.size + 1)) wr).drew).trans hx (fun _ h => .inl h)
              obtain ⟨v9, s9, e9, y9⟩ := hp 9 (by kernel_rfl)
              have e9 := e9 57 rfl
              obtain rfl : v9 = (.tuple #[.agg #[.int .u8 r.v.f0, .int .i64 r.v.f1, .string r.v.f2, .slice r.B r.v.f3.length r.cb, .int .i64 r.v.f4], .bool true, .int .i64 0]) := s9
              clear y9
              clear hp hb
              refine wantL rfl ⟨.tuple #[.agg #[.int .u8 r.v.f0, .int .i64 r.v.f1, .string r.v.f2, .slice r.B r.v.f3.length r.cb, .int .i64 r.v.f4], .bool true, .int .i64 0], w1, ?_, Ex.refl _ _, rfl, by simpa using hJ⟩
              go_simp
            · intro o ho ρ yl w1 hx hc hf hgl hp hb bp bq jv hJ hjp hjq
              simp only [List.getElem?_toArray, List.getElem?_cons_succ, List.getElem?_cons_zero, Option.some.injEq] at ho
              subst ho
              have hx := ((Ex.refl (fun b : Nat => b = (w.heap.size + 2) ∨ b = w.heap.size ∨ b = (w.heap.size + 1)) wr).drew).trans hx (fun _ h => .inl h)
              obtain ⟨v10, s10, e10, y10⟩ := hp 10 (by kernel_rfl)
              have e10 := e10 47 rfl
              obtain rfl : v10 = (.tuple #[.agg #[.int .u8 r.v.f0, .int .i64 r.v.f1, .string r.v.f2, .slice r.B r.v.f3.length r.cb, .int .i64 r.v.f4], .bool true, .int .i64 0]) := s10
              clear y10
              clear hp hb
              refine wantL rfl ⟨.agg #[.int .u8 r.v.f0, .int .i64 r.v.f1, .string r.v.f2, .slice r.B r.v.f3.length r.cb, .int .i64 r.v.f4], w1, ?_, Ex.refl _ _, rfl, by simpa using hJ⟩
              go_simp
            · exact absurd hnl (by decide)
            · exact absurd hnl (by decide)
            · intro o ho ρ yl w1 hx hc hf hgl hp hb bp bq jv hJ hjp hjq
              simp only [List.getElem?_toArray, List.getElem?_cons_succ, List.getElem?_cons_zero, Option.some.injEq] at ho
              subst ho
              have hx := ((Ex.refl (fun b : Nat => b = (w.heap.size + 2) ∨ b = w.heap.size ∨ b = (w.heap.size + 1)) wr).drew).trans hx (fun _ h => .inl h)
              clear hp hb
              have hjq := hjq rfl
              subst hjq
              refine wantL rfl ⟨_, _, exec_value (s := Instr.alloc 27 true (.tuple #[])) rfl (alloc27 w1), (Ex.refl _ _).alloc _, ⟨w1.heap.size, rfl, hx.size, blk_new1 _ _⟩, ?_⟩
              have h9 := JP.alloc hJ hx (fun T2 w w' h hx => h.ex hx (fun _ _ h => h))
              simpa [dstOf] using h9
          · intro i hil
            obtain rfl | rfl : i = 12 ∨ i = 13 := by simpa using hil
            · intro o ho ρ yl w1 hx hc hf hgl hp hb
              simp only [List.getElem?_toArray, List.getElem?_cons_succ, List.getElem?_cons_zero, Option.some.injEq] at ho
              subst ho
              have hx := ((Ex.refl (fun b : Nat => b = (w.heap.size + 2) ∨ b = w.heap.size ∨ b = (w.heap.size + 1)) wr).drew).trans hx (fun _ h => .inl h)
              obtain ⟨v10, s10, e10, y10⟩ := hp 10 (by kernel_rfl)
              have e10 := e10 47 rfl
              obtain rfl : v10 = (.tuple #[.agg #[.int .u8 r.v.f0, .int .i64 r.v.f1, .string r.v.f2, .slice r.B r.v.f3.length r.cb, .int .i64 r.v.f4], .bool true, .int .i64 0]) := s10
              clear y10
              clear hp hb
              refine ⟨.bool true, .inl ⟨rfl, fun w' => ?_⟩, rfl⟩
              go_simp
            · intro o ho ρ yl w1 hx hc hf hgl hp hb
              simp only [List.getElem?_toArray, List.getElem?_cons_succ, List.getElem?_cons_zero, Option.some.injEq] at ho
              subst ho
              have hx := ((Ex.refl (fun b : Nat => b = (w.heap.size + 2) ∨ b = w.heap.size ∨ b = (w.heap.size + 1)) wr).drew).trans hx (fun _ h => .inl h)
              obtain ⟨v10, s10, e10, y10⟩ := hp 10 (by kernel_rfl)
              have e10 := e10 47 rfl
              obtain rfl : v10 = (.tuple #[.agg #[.int .u8 r.v.f0, .int .i64 r.v.f1, .string r.v.f2, .slice r.B r.v.f3.length r.cb, .int .i64 r.v.f4], .bool true, .int .i64 0]) := s10
              clear y10
              clear hp hb
              refine ⟨.int .i64 0, .inl ⟨rfl, fun w' => ?_⟩, rfl⟩
              go_simp
          · intro xs w1 hx hs hJJ KQ hKK
            have s0 : xs 0 = (.pointer (some ⟨(w.heap.size + 2), 0, none⟩)) := hs 0 (by omega)
            have s1 : xs 1 = (.slice (some ad) K.length ca) := hs 1 (by omega)
            have s2 : xs 2 = (.int .i64 i) := hs 2 (by omega)
            have s3 : xs 3 = (.pointer (some (ad.add (i * 5)))) := hs 3 (by omega)
            have s4 : xs 4 = (.agg #[.int .u8 kx.f0, .int .i64 kx.f1, .string kx.f2, .slice A3 kx.f3.length c3, .int .i64 kx.f4]) := hs 4 (by omega)
            have s5 : xs 5 = (.slice (some bd) V.length cb) := hs 5 (by omega)
            have s6 : xs 6 = (.int .i64 i) := hs 6 (by omega)
            have s7 : xs 7 = (.pointer (some (bd.add (i * 5)))) := hs 7 (by omega)
            have s8 : xs 8 = (.agg #[.int .u8 vx.f0, .int .i64 vx.f1, .string vx.f2, .slice B3 vx.f3.length d3, .int .i64 vx.f4]) := hs 8 (by omega)
            have s9 : xs 9 = (.tuple #[.agg #[.int .u8 r.v.f0, .int .i64 r.v.f1, .string r.v.f2, .slice r.B r.v.f3.length r.cb, .int .i64 r.v.f4], .bool true, .int .i64 0]) := hs 9 (by omega)
            have s10 : xs 10 = (.tuple #[.agg #[.int .u8 r.v.f0, .int .i64 r.v.f1, .string r.v.f2, .slice r.B r.v.f3.length r.cb, .int .i64 r.v.f4], .bool true, .int .i64 0]) := hs 10 (by omega)
            have s11 : xs 11 = (.agg #[.int .u8 r.v.f0, .int .i64 r.v.f1, .string r.v.f2, .slice r.B r.v.f3.length r.cb, .int .i64 r.v.f4]) := hs 11 (by omega)
            have s12 : xs 12 = (.bool true) := hs 12 (by omega)
            have s13 : xs 13 = (.int .i64 0) := hs 13 (by omega)
            have s14 : (At wr.heap.size ZB) (xs 14) w1 := hs 14 (by omega)
            clear hs
            simp only [putSlots, dstOf, List.getElem?_toArray, List.getElem?_cons_succ, List.getElem?_cons_zero, Option.bind_some, List.setIfInBounds_toArray, List.set_cons_zero, List.set_cons_succ, List.drop_succ_cons, List.drop_zero]
            rw [s0, s1, s2, s3, s4, s5, s6, s7, s8, s9, s10, s11, s12, s13]
            clear s0 s1 s2 s3 s4 s5 s6 s7 s8 s9 s10 s11 s12 s13
            obtain ⟨g8, hg8, hlo, hb8⟩ := s14
            rw [hg8]
            have hJJ := hJJ (show (9 : Nat) < 15 from by decide)
            rw [if_pos (by rfl), hg8] at hJJ
            have HB8 := Aside0.mk hb8
            have HLO := Aside0.mk hlo
            have HX1 := Aside0.mk hx
            have HJJ := Aside0.mk hJJ
            have q8c0 := (blk_cell hb8 0).trans rfl
            have q8f0 := blk_frozen hb8 0
            have q8c1 := (blk_cell hb8 1).trans rfl
            have q8f1 := blk_frozen hb8 1
            have q8c2 := (blk_cell hb8 2).trans rfl
            have q8f2 := blk_frozen hb8 2
            have q8c3 := (blk_cell hb8 3).trans rfl
            have q8f3 := blk_frozen hb8 3
            have q8c4 := (blk_cell hb8 4).trans rfl
            have q8f4 := blk_frozen hb8 4
            have q8l := lt_of_blk hb8
            clear hg8 hb8 hx hlo hJJ
            go_wp2_with fail
            go_meet
            obtain ⟨g', T2, hgg, _, _, hr, _, hng⟩ := HJJ.out
            cases hgg
            exact ⟨rfl, rfl, ⟨ex_put27 HX1.out (.inr HLO.out) _ _ _ _ _⟩, ⟨T2, hr.ex (ex_put27 (Ex.refl (fun b => b = g8) _) (.inl rfl) _ _ _ _ _) (fun b hb e => hng (e ▸ hb))⟩⟩
        case rest =>
          obtain ⟨rfl, rfl, HXA, HRA⟩ := hcut
          obtain ⟨gko, rfl⟩ : ∃ n : Nat, n = gk := ⟨_, rfl⟩
          obtain ⟨hv6, hmet⟩ := HM6.out
          subst hv6
          clear hmet HM6
          obtain ⟨T2, B5, d5, ht, hT2⟩ := HRA.out
          have HTT := Aside0.mk (ht.mono hT2)
          have HD := Aside0.mk (HH.out.turned HXA.out HTT.out)
          clear ht hT2 HRA
          go_wp2_with fail
          go_loopg [11, 12] es.length (fun m v11 v12 wi => ∃ k : Nat, v12 = .int .i64 k ∧ v11 = .bool (wasB (es.take k) kx) ∧ Aside0 (k + m = es.length) ∧ Aside0 (Ex (fun _ => False) wc wi))
          case atStart => exact ⟨0, rfl, by simp [wasB], ⟨by omega⟩, ⟨Ex.refl _ _⟩⟩
          case round =>
            obtain ⟨k, rfl, rfl, HKM, HI⟩ := hrel
            by_cases hk : k < es.length
            · obtain ⟨e, hek⟩ : ∃ e, es[k]? = some e := ⟨_, List.getElem?_eq_getElem hk⟩
              obtain ⟨M', cm', he6, _, hmm⟩ := own_slice (mine_ex0 HD.out.1 HI.out)
              cases he6
              obtain ⟨gm, hM, hown, hge, hce⟩ := hmm k e hek
              have HEG := Aside0.mk (HD.out.2.1 e (List.mem_of_getElem? hek))
              have HNX := Aside0.mk (wasB_next hek kx)
              have HLE := Aside0.mk (HH.out.lens (List.mem_of_getElem? hek))
              have HCE := Aside0.mk hce
              have HCE := Aside0.mk hce
              clear hmm hown hge hce hek
              subst hM
              have hkk : (k : Int) < (es.length : Int) := by omega
              have hk0 : (0 : Int) ≤ (k : Int) := by omega
              have hkb : k < 100 := by have h1 := HH.out.few; have h2 := HKL.out; omega
              cases hb : wasB (es.take k) kx with
              | true =>
                have HBT := Aside0.mk hb
                clear hb
                go_wp2_with fail
                go_quiet (fail)
                go_wp2_with fail
                go_roundg (gk - 1)
                case measure => have := HKM.out; omega
                case rel => exact ⟨k + 1, by go_num, by rw [HNX.out, HBT.out]; rfl, ⟨by have := HKM.out; omega⟩, ⟨HI.out.trans ((Ex.refl (fun _ => False) _).drewN _) (fun _ h => h.elim)⟩⟩
              | false =>
                have HBF := Aside0.mk hb
                clear hb
                go_upto_region 14 with (fail)
                refine region_by 12 [] (specL [Is (.bool false), Is (.bool false), Is (.slice (some ⟨gm, 0, none⟩) es.length cm), Is (.int .i64 k), Is (.pointer (some ⟨gm, k * 5, none⟩)), Is (.agg #[.int .u8 e.x.f0, .int .i64 e.x.f1, .string e.x.f2, .slice e.A e.x.f3.length e.c, .int .i64 e.x.f4]), Is (.slice (some ad) K.length ca), Is (.int .i64 i), Is (.pointer (some (ad.add (i * 5)))), Is (.agg #[.int .u8 kx.f0, .int .i64 kx.f1, .string kx.f2, .slice A3 kx.f3.length c3, .int .i64 kx.f4]), Is (.bool (eqV e.x kx)), Is (.bool (eqV e.x kx))]) (by decide) (by decide) (by kernel_rfl) (by kernel_rfl) (stab_all (stab_cons (stab_is _) (stab_cons (stab_is _) (stab_cons (stab_is _) (stab_cons (stab_is _) (stab_cons (stab_is _) (stab_cons (stab_is _) (stab_cons (stab_is _) (stab_cons (stab_is _) (stab_cons (stab_is _) (stab_cons (stab_is _) (stab_cons (stab_is _) (stab_cons (stab_is _) (stab_nil)))))))))))))) ?_ ?_ ?_
                · intro i hi hnl
                  obtain rfl | rfl | rfl | rfl | rfl | rfl | rfl | rfl | rfl | rfl | rfl | rfl : i = 0 ∨ i = 1 ∨ i = 2 ∨ i = 3 ∨ i = 4 ∨ i = 5 ∨ i = 6 ∨ i = 7 ∨ i = 8 ∨ i = 9 ∨ i = 10 ∨ i = 11 := by omega
                  · intro o ho ρ yl w1 hx hc hf hgl hp hb
                    simp only [List.getElem?_toArray, List.getElem?_cons_succ, List.getElem?_cons_zero, Option.some.injEq] at ho
                    subst ho
                    have hx := ((Ex.refl (fun _ => False) wr).drew).trans hx (fun _ h => h.elim)
                    have b11 := hb 11 (by kernel_rfl)
                    clear hp hb
                    refine wantL rfl ⟨.bool false, w1, ?_, Ex.refl _ _, rfl⟩
                    go_simp
                  · intro o ho ρ yl w1 hx hc hf hgl hp hb
                    simp only [List.getElem?_toArray, List.getElem?_cons_succ, List.getElem?_cons_zero, Option.some.injEq] at ho
                    subst ho
                    have hx := ((Ex.refl (fun _ => False) wr).drew).trans hx (fun _ h => h.elim)
                    obtain ⟨v0, s0, e0, y0⟩ := hp 0 (by kernel_rfl)
                    have e0 := e0 69 rfl
                    obtain rfl : v0 = (.bool false) := s0
                    clear y0
                    clear hp hb
                    refine wantL rfl ⟨.bool false, w1, ?_, Ex.refl _ _, rfl⟩
                    go_simp
                  · intro o ho ρ yl w1 hx hc hf hgl hp hb
                    simp only [List.getElem?_toArray, List.getElem?_cons_succ, List.getElem?_cons_zero, Option.some.injEq] at ho
                    subst ho
                    have hx := ((Ex.refl (fun _ => False) wr).drew).trans hx (fun _ h => h.elim)
                    obtain ⟨v1, s1, e1, y1⟩ := hp 1 (by kernel_rfl)
                    have e1 := e1 70 rfl
                    obtain rfl : v1 = (.bool false) := s1
                    have y1 := y1 rfl
                    have b6 := hb 6 (by kernel_rfl)
                    clear hp hb
                    refine wantL (by simp [Region.wanted, y1]) ⟨.slice (some ⟨gm, 0, none⟩) es.length cm, w1, ?_, Ex.refl _ _, rfl⟩
                    go_simp
                  · intro o ho ρ yl w1 hx hc hf hgl hp hb
                    simp only [List.getElem?_toArray, List.getElem?_cons_succ, List.getElem?_cons_zero, Option.some.injEq] at ho
                    subst ho
                    have hx := ((Ex.refl (fun _ => False) wr).drew).trans hx (fun _ h => h.elim)
                    obtain ⟨v1, s1, e1, y1⟩ := hp 1 (by kernel_rfl)
                    have e1 := e1 70 rfl
                    obtain rfl : v1 = (.bool false) := s1
                    have y1 := y1 rfl
                    have b12 := hb 12 (by kernel_rfl)
                    clear hp hb
                    refine wantL (by simp [Region.wanted, y1]) ⟨.int .i64 k, w1, ?_, Ex.refl _ _, rfl⟩
                    go_simp
                  · intro o ho ρ yl w1 hx hc hf hgl hp hb
                    simp only [List.getElem?_toArray, List.getElem?_cons_succ, List.getElem?_cons_zero, Option.some.injEq] at ho
                    subst ho
                    have hx := ((Ex.refl (fun _ => False) wr).drew).trans hx (fun _ h => h.elim)
                    obtain ⟨v2, s2, e2, y2⟩ := hp 2 (by kernel_rfl)
                    have e2 := e2 71 rfl
                    obtain rfl : v2 = (.slice (some ⟨gm, 0, none⟩) es.length cm) := s2
                    clear y2
                    obtain ⟨v3, s3, e3, y3⟩ := hp 3 (by kernel_rfl)
                    have e3 := e3 72 rfl
                    obtain rfl : v3 = (.int .i64 k) := s3
                    clear y3
                    obtain ⟨v1, s1, e1, y1⟩ := hp 1 (by kernel_rfl)
                    have e1 := e1 70 rfl
                    obtain rfl : v1 = (.bool false) := s1
                    have y1 := y1 rfl
                    clear hp hb
                    refine wantL (by simp [Region.wanted, y1]) ⟨.pointer (some ⟨gm, k * 5, none⟩), w1, ?_, Ex.refl _ _, rfl⟩
                    go_simp
                  · intro o ho ρ yl w1 hx hc hf hgl hp hb
                    simp only [List.getElem?_toArray, List.getElem?_cons_succ, List.getElem?_cons_zero, Option.some.injEq] at ho
                    subst ho
                    have hx := ((Ex.refl (fun _ => False) wr).drew).trans hx (fun _ h => h.elim)
                    obtain ⟨v4, s4, e4, y4⟩ := hp 4 (by kernel_rfl)
                    have e4 := e4 73 rfl
                    obtain rfl : v4 = (.pointer (some ⟨gm, k * 5, none⟩)) := s4
                    clear y4
                    obtain ⟨v1, s1, e1, y1⟩ := hp 1 (by kernel_rfl)
                    have e1 := e1 70 rfl
                    obtain rfl : v1 = (.bool false) := s1
                    have y1 := y1 rfl
                    clear hp hb
                    have hlg := block_lt_of_cell (HCE.out 0 _ rfl)
                    have h0 : w1.cell? ⟨gm, k * 5, none⟩ = some (.int .u8 e.x.f0) := (hx.cell hlg (fun h => h) _).trans (HCE.out 0 _ rfl)
                    have h1 : w1.cell? ⟨gm, k * 5 + 1, none⟩ = some (.int .i64 e.x.f1) := (hx.cell hlg (fun h => h) _).trans (HCE.out 1 _ rfl)
                    have h2 : w1.cell? ⟨gm, k * 5 + 2, none⟩ = some (.string e.x.f2) := (hx.cell hlg (fun h => h) _).trans (HCE.out 2 _ rfl)
                    have h3 : w1.cell? ⟨gm, k * 5 + 3, none⟩ = some (.slice e.A e.x.f3.length e.c) := (hx.cell hlg (fun h => h) _).trans (HCE.out 3 _ rfl)
                    have h4 : w1.cell? ⟨gm, k * 5 + 4, none⟩ = some (.int .i64 e.x.f4) := (hx.cell hlg (fun h => h) _).trans (HCE.out 4 _ rfl)
                    refine wantL (by simp [Region.wanted, y1]) ⟨.agg #[.int .u8 e.x.f0, .int .i64 e.x.f1, .string e.x.f2, .slice e.A e.x.f3.length e.c, .int .i64 e.x.f4], w1, ?_, Ex.refl _ _, rfl⟩
                    go_simp
                  · intro o ho ρ yl w1 hx hc hf hgl hp hb
                    simp only [List.getElem?_toArray, List.getElem?_cons_succ, List.getElem?_cons_zero, Option.some.injEq] at ho
                    subst ho
                    have hx := ((Ex.refl (fun _ => False) wr).drew).trans hx (fun _ h => h.elim)
                    obtain ⟨v1, s1, e1, y1⟩ := hp 1 (by kernel_rfl)
                    have e1 := e1 70 rfl
                    obtain rfl : v1 = (.bool false) := s1
                    have y1 := y1 rfl
                    have b0 := hb 0 (by kernel_rfl)
                    clear hp hb
                    refine wantL (by simp [Region.wanted, y1]) ⟨.slice (some ad) K.length ca, w1, ?_, Ex.refl _ _, rfl⟩
                    go_simp
                  · intro o ho ρ yl w1 hx hc hf hgl hp hb
                    simp only [List.getElem?_toArray, List.getElem?_cons_succ, List.getElem?_cons_zero, Option.some.injEq] at ho
                    subst ho
                    have hx := ((Ex.refl (fun _ => False) wr).drew).trans hx (fun _ h => h.elim)
                    obtain ⟨v1, s1, e1, y1⟩ := hp 1 (by kernel_rfl)
                    have e1 := e1 70 rfl
                    obtain rfl : v1 = (.bool false) := s1
                    have y1 := y1 rfl
                    have b7 := hb 7 (by kernel_rfl)
                    clear hp hb
                    refine wantL (by simp [Region.wanted, y1]) ⟨.int .i64 i, w1, ?_, Ex.refl _ _, rfl⟩
                    go_simp
                  · intro o ho ρ yl w1 hx hc hf hgl hp hb
                    simp only [List.getElem?_toArray, List.getElem?_cons_succ, List.getElem?_cons_zero, Option.some.injEq] at ho
                    subst ho
                    have hx := ((Ex.refl (fun _ => False) wr).drew).trans hx (fun _ h => h.elim)
                    obtain ⟨v6, s6, e6, y6⟩ := hp 6 (by kernel_rfl)
                    have e6 := e6 75 rfl
                    obtain rfl : v6 = (.slice (some ad) K.length ca) := s6
                    clear y6
                    obtain ⟨v7, s7, e7, y7⟩ := hp 7 (by kernel_rfl)
                    have e7 := e7 76 rfl
                    obtain rfl : v7 = (.int .i64 i) := s7
                    clear y7
                    obtain ⟨v1, s1, e1, y1⟩ := hp 1 (by kernel_rfl)
                    have e1 := e1 70 rfl
                    obtain rfl : v1 = (.bool false) := s1
                    have y1 := y1 rfl
                    clear hp hb
                    refine wantL (by simp [Region.wanted, y1]) ⟨.pointer (some (ad.add (i * 5))), w1, ?_, Ex.refl _ _, rfl⟩
                    go_simp
                  · intro o ho ρ yl w1 hx hc hf hgl hp hb
                    simp only [List.getElem?_toArray, List.getElem?_cons_succ, List.getElem?_cons_zero, Option.some.injEq] at ho
                    subst ho
                    have hx := ((Ex.refl (fun _ => False) wr).drew).trans hx (fun _ h => h.elim)
                    obtain ⟨v8, s8, e8, y8⟩ := hp 8 (by kernel_rfl)
                    have e8 := e8 77 rfl
                    obtain rfl : v8 = (.pointer (some (ad.add (i * 5)))) := s8
                    clear y8
                    obtain ⟨v1, s1, e1, y1⟩ := hp 1 (by kernel_rfl)
                    have e1 := e1 70 rfl
                    obtain rfl : v1 = (.bool false) := s1
                    have y1 := y1 rfl
                    clear hp hb
                    obtain ⟨h0, h1, h2, h3, h4⟩ := HCL.out _ w1 ((HXA.out.trans HI.out (fun _ h => h.elim)).trans hx (fun _ h => h.elim)) (by intro b hb hs; rcases hs with rfl | rfl | rfl <;> omega)
                    refine wantL (by simp [Region.wanted, y1]) ⟨.agg #[.int .u8 kx.f0, .int .i64 kx.f1, .string kx.f2, .slice A3 kx.f3.length c3, .int .i64 kx.f4], w1, ?_, Ex.refl _ _, rfl⟩
                    go_simp
                  · intro o ho ρ yl w1 hx hc hf hgl hp hb
                    simp only [List.getElem?_toArray, List.getElem?_cons_succ, List.getElem?_cons_zero, Option.some.injEq] at ho
                    subst ho
                    have hx := ((Ex.refl (fun _ => False) wr).drew).trans hx (fun _ h => h.elim)
                    obtain ⟨v5, s5, e5, y5⟩ := hp 5 (by kernel_rfl)
                    have e5 := e5 74 rfl
                    obtain rfl : v5 = (.agg #[.int .u8 e.x.f0, .int .i64 e.x.f1, .string e.x.f2, .slice e.A e.x.f3.length e.c, .int .i64 e.x.f4]) := s5
                    clear y5
                    obtain ⟨v9, s9, e9, y9⟩ := hp 9 (by kernel_rfl)
                    have e9 := e9 78 rfl
                    obtain rfl : v9 = (.agg #[.int .u8 kx.f0, .int .i64 kx.f1, .string kx.f2, .slice A3 kx.f3.length c3, .int .i64 kx.f4]) := s9
                    clear y9
                    obtain ⟨v1, s1, e1, y1⟩ := hp 1 (by kernel_rfl)
                    have e1 := e1 70 rfl
                    obtain rfl : v1 = (.bool false) := s1
                    have y1 := y1 rfl
                    clear hp hb
                    refine wantR (by simp [Region.wanted, y1]) ⟨16, #[.agg #[.int .u8 e.x.f0, .int .i64 e.x.f1, .string e.x.f2, .slice e.A e.x.f3.length e.c, .int .i64 e.x.f4], .agg #[.int .u8 kx.f0, .int .i64 kx.f1, .string kx.f2, .slice A3 kx.f3.length c3, .int .i64 kx.f4]], exec_call' Try.func16 (by kernel_rfl) rfl _ rfl (by simp [e5, e9]) (hf 16), ?_⟩
                    refine (alike_calls e.x kx e.A A3 e.c c3 _ HEG.out.le (Kd.F_now (ex_F (HI.out.trans hx (fun _ h => h.elim)) HEG.out.F (fun _ _ h => h))) HC3.out.1 (Kd.F_now (ex_F ((HXA.out.trans HI.out (fun _ h => h.elim)).trans hx (fun _ h => h.elim)) HF3.out (by intro b hb hs; rcases hs with rfl | rfl | rfl <;> omega))) HLE.out).mono ?_
                    rintro e' wq ⟨rfl, hq0⟩
                    exact ⟨_, rfl, Ex.of_below hq0, rfl⟩
                  · intro o ho ρ yl w1 hx hc hf hgl hp hb
                    simp only [List.getElem?_toArray, List.getElem?_cons_succ, List.getElem?_cons_zero, Option.some.injEq] at ho
                    subst ho
                    have hx := ((Ex.refl (fun _ => False) wr).drew).trans hx (fun _ h => h.elim)
                    obtain ⟨v1, s1, e1, y1⟩ := hp 1 (by kernel_rfl)
                    have e1 := e1 70 rfl
                    obtain rfl : v1 = (.bool false) := s1
                    clear y1
                    obtain ⟨v10, s10, e10, y10⟩ := hp 10 (by kernel_rfl)
                    have e10 := e10 79 rfl
                    obtain rfl : v10 = (.bool (eqV e.x kx)) := s10
                    clear y10
                    clear hp hb
                    refine wantL rfl ⟨.bool (eqV e.x kx), w1, ?_, Ex.refl _ _, rfl⟩
                    go_simp
                · intro i hil
                  exact absurd hil (by simp)
                · intro xs w1 hx hs KQ hKK
                  have s0 : xs 0 = (.bool false) := hs 0 (by omega)
                  have s1 : xs 1 = (.bool false) := hs 1 (by omega)
                  have s2 : xs 2 = (.slice (some ⟨gm, 0, none⟩) es.length cm) := hs 2 (by omega)
                  have s3 : xs 3 = (.int .i64 k) := hs 3 (by omega)
                  have s4 : xs 4 = (.pointer (some ⟨gm, k * 5, none⟩)) := hs 4 (by omega)
                  have s5 : xs 5 = (.agg #[.int .u8 e.x.f0, .int .i64 e.x.f1, .string e.x.f2, .slice e.A e.x.f3.length e.c, .int .i64 e.x.f4]) := hs 5 (by omega)
                  have s6 : xs 6 = (.slice (some ad) K.length ca) := hs 6 (by omega)
                  have s7 : xs 7 = (.int .i64 i) := hs 7 (by omega)
                  have s8 : xs 8 = (.pointer (some (ad.add (i * 5)))) := hs 8 (by omega)
                  have s9 : xs 9 = (.agg #[.int .u8 kx.f0, .int .i64 kx.f1, .string kx.f2, .slice A3 kx.f3.length c3, .int .i64 kx.f4]) := hs 9 (by omega)
                  have s10 : xs 10 = (.bool (eqV e.x kx)) := hs 10 (by omega)
                  have s11 : xs 11 = (.bool (eqV e.x kx)) := hs 11 (by omega)
                  clear hs
                  simp only [putSlots, dstOf, List.getElem?_toArray, List.getElem?_cons_succ, List.getElem?_cons_zero, Option.bind_some, List.setIfInBounds_toArray, List.set_cons_zero, List.set_cons_succ, List.drop_succ_cons, List.drop_zero]
                  rw [s0, s1, s2, s3, s4, s5, s6, s7, s8, s9, s10, s11]
                  clear s0 s1 s2 s3 s4 s5 s6 s7 s8 s9 s10 s11
                  have HX1 := Aside0.mk hx
                  clear hx
                  go_wp2_with fail
                  go_roundg (gk - 1)
                  case measure => have := HKM.out; omega
                  case rel => exact ⟨k + 1, by go_num, by rw [HNX.out, HBF.out]; rfl, ⟨by have := HKM.out; omega⟩, ⟨HI.out.trans HX1.out (fun _ h => h.elim)⟩⟩
            · have hkk : ¬ (k : Int) < (es.length : Int) := by omega
              have hw : wasB (es.take k) kx = true := by
                rw [List.take_of_length_le (by omega)]
                refine wasB_all.2 ?_
                rw [HH.out.keys]
                have hr' := List.mem_of_getElem? HCC.out.2.2.2.2.1
                exact List.mem_map.2 ⟨r, hr', (row_key HH.out.tab HCC.out.2.2.1 HCC.out.1 HCC.out.2.2.2.1 hr').1 HCC.out.2.2.2.2.2⟩
              rw [hw]
              clear hw
              go_wp2_with fail
              go_roundg (gko - 1)
              case measure => have := HM.out; omega
              case rel => exact ⟨i + 1, es, _, came, _, by go_num, ⟨by have := HM.out; omega⟩, ⟨(HH.out.old HXA.out HKX.out.1 HKX.out.2 HCC.out.1 HCC.out.2.1 HCC.out.2.2.1 HCC.out.2.2.2.1 HCC.out.2.2.2.2.1 HCC.out.2.2.2.2.2 HTT.out).ex0 HI.out⟩⟩
    · have hie : i = K.length := by have := HM.out; omega
      subst hie
      obtain ⟨M, cm, hv6, hcm, hmet⟩ := own_slice HH.out.met
      have HM6 := Aside0.mk hmet
      clear hmet
      subst hv6
      have hii : ¬ (K.length : Int) < (K.length : Int) := by omega
      have hrl : rows.length = es.length := by have := congrArg List.length HH.out.keys; simpa using this.symm
      have hne : ((rows.length : Int) != (es.length : Int)) = false := by simp [hrl]
      have HRL := Aside0.mk hrl
      clear hrl
      go_wp2_with fail
      refine (len_calls (w.heap.size + 2) w.heap.size (w.heap.size + 1) T rows came _ HH.out.tab).mono ?_
      rintro e wq ⟨rfl, rfl⟩
      obtain ⟨wh, rfl⟩ : ∃ x : World, x = wq := ⟨_, rfl⟩
      obtain ⟨gko, rfl⟩ : ∃ n : Nat, n = gk := ⟨_, rfl⟩
      go_wp2_with fail
      clear hne hii
      go_loopg [13] es.length (fun m v13 wi => ∃ p : Nat, v13 = .int .i64 p ∧ Aside0 (p + m = es.length) ∧ Aside0 (Ex (fun _ => False) wh wi))
      case atStart => exact ⟨0, rfl, ⟨by omega⟩, ⟨Ex.refl _ _⟩⟩
      case round =>
        obtain ⟨p, rfl, HPM, HI⟩ := hrel
        obtain ⟨w2, rfl⟩ : ∃ x : World, x = wr := ⟨_, rfl⟩
        obtain ⟨gkp, rfl⟩ : ∃ n : Nat, n = gk := ⟨_, rfl⟩
        by_cases hp : p < es.length
        · obtain ⟨e, hek⟩ : ∃ e, es[p]? = some e := ⟨_, List.getElem?_eq_getElem hp⟩
          obtain ⟨gm, hM, _, _, hce⟩ := HM6.out p e hek
          subst hM
          obtain ⟨r, hr, hrk⟩ : ∃ r, rows[p]? = some r ∧ r.k = e.x := by
            have h1 := congrArg (fun l => l[p]?) HH.out.keys
            simp only [List.getElem?_map, hek, Option.map_some] at h1
            cases hr : rows[p]? with
            | none => rw [hr] at h1; simp at h1
            | some r => rw [hr] at h1; exact ⟨r, rfl, by simpa using h1.symm⟩
          have HEG := Aside0.mk ((HH.out.els e (List.mem_of_getElem? hek)).ex HI.out (fun _ _ h => h))
          have HLE := Aside0.mk (HH.out.lens (List.mem_of_getElem? hek))
          have HR := Aside0.mk (And.intro hr hrk)
          have HCE := Aside0.mk hce
          have HFr := Aside0.mk (ex_F (HH.out.grown.trans HI.out (fun _ h => h.elim)) HF.out (fun _ _ h => h))
          have HGr := Aside0.mk (ex_F (HH.out.grown.trans HI.out (fun _ h => h.elim)) HG.out (fun _ _ h => h))
          clear hce hr hrk hek
          have hpp : (p : Int) < (es.length : Int) := by omega
          have hp0 : (0 : Int) ≤ (p : Int) := by omega
          have hp100 : p < 100 := by have := HH.out.few; omega
          go_wp2_with fail
          go_loopg [14, 15] K.length (fun m v14 v15 wi => ∃ l : Nat, v15 = .int .i64 l ∧ v14 = .int .i64 (lastI K V e.x l) ∧ Aside0 (l + m = K.length) ∧ Aside0 (Ex (fun _ => False) w2 wi))
          case atStart => exact ⟨0, rfl, rfl, ⟨by omega⟩, ⟨Ex.refl _ _⟩⟩
          case round =>
            obtain ⟨l, rfl, rfl, HLM, HJ⟩ := hrel
            by_cases hl : l < K.length
            · have hlv : l < V.length := by omega
              obtain ⟨ad, A3, c3, hA, hc3, hF3, hcl⟩ := at_S27 HFr.out l hl
              obtain ⟨bd, B3, d3, hB, hd3, hG3, hdl⟩ := at_S27 HGr.out l hlv
              have hnx : lastI K V e.x (l + 1) = if eqV (rd_T27 K (l : Int)) e.x = true ∧ mayV (rd_T27 V (l : Int)) = true then (l : Int) else lastI K V e.x l := rfl
              have hWk := (HK.out.1 _ (rd_mem hl)).lens
              generalize rd_T27 K (l : Int) = kx at hc3 hF3 hcl hnx hWk
              generalize rd_T27 V (l : Int) = vx at hd3 hG3 hdl hnx
              have HCL := Aside0.mk hcl
              have HDL := Aside0.mk hdl
              have HF3 := Aside0.mk hF3
              have HG3 := Aside0.mk hG3
              have HNX := Aside0.mk hnx
              have HWK := Aside0.mk hWk
              have HC3 := Aside0.mk (And.intro hc3 hd3)
              clear hcl hdl hF3 hG3 hnx hWk hc3 hd3
              subst hA hB
              have hll : (l : Int) < (K.length : Int) := by omega
              have hlv2 : (l : Int) < (V.length : Int) := by omega
              have hl0 : (0 : Int) ≤ (l : Int) := by omega
              have hl100 : l < 100 := by omega
              cases hmv : mayV vx with
              | false =>
                have HMV := Aside0.mk hmv
                clear hmv
                cases heq : eqV kx e.x with
                | false =>
                  have HEQ := Aside0.mk heq
                  clear heq
                  obtain ⟨h0, h1, h2, h3, h4⟩ := HDL.out _ wr HJ.out (fun _ _ h => h)
                  go_wp2_with fail
                  refine (of_no vx B3 d3 _ (fun k => k < w.heap.size) (ex_F HJ.out HG3.out (fun _ _ h => h)) HMV.out).mono ?_
                  rintro e' wq ⟨rfl, hq⟩
                  have HQ := Aside0.mk (HJ.out.trans hq (fun _ h => h.elim))
                  clear hq h0 h1 h2 h3 h4
                  go_upto_region 29 with (fail)
                  refine region_by 13 [] (specL [Is (.slice (some ad) K.length ca), Is (.int .i64 l), Is (.pointer (some (ad.add (l * 5)))), Is (.agg #[.int .u8 kx.f0, .int .i64 kx.f1, .string kx.f2, .slice A3 kx.f3.length c3, .int .i64 kx.f4]), Is (.slice (some ⟨gm, 0, none⟩) es.length cm), Is (.int .i64 p), Is (.pointer (some ⟨gm, p * 5, none⟩)), Is (.agg #[.int .u8 e.x.f0, .int .i64 e.x.f1, .string e.x.f2, .slice e.A e.x.f3.length e.c, .int .i64 e.x.f4]), Is (.bool false), Is (.bool false), fun _ _ => True, fun _ _ => True, Is (.bool false)]) (by decide) (by decide) (by kernel_rfl) (by kernel_rfl) (stab_all (stab_cons (stab_is _) (stab_cons (stab_is _) (stab_cons (stab_is _) (stab_cons (stab_is _) (stab_cons (stab_is _) (stab_cons (stab_is _) (stab_cons (stab_is _) (stab_cons (stab_is _) (stab_cons (stab_is _) (stab_cons (stab_is _) (stab_cons ((fun _ _ _ h _ => h)) (stab_cons ((fun _ _ _ h _ => h)) (stab_cons (stab_is _) (stab_nil))))))))))))))) ?_ ?_ ?_
                  · intro i hi hnl
                    obtain rfl | rfl | rfl | rfl | rfl | rfl | rfl | rfl | rfl | rfl | rfl | rfl | rfl : i = 0 ∨ i = 1 ∨ i = 2 ∨ i = 3 ∨ i = 4 ∨ i = 5 ∨ i = 6 ∨ i = 7 ∨ i = 8 ∨ i = 9 ∨ i = 10 ∨ i = 11 ∨ i = 12 := by omega
                    · intro o ho ρ yl w1 hx hc hf hgl hp hb
                      simp only [List.getElem?_toArray, List.getElem?_cons_succ, List.getElem?_cons_zero, Option.some.injEq] at ho
                      subst ho
                      have hx := ((Ex.refl (fun _ => False) wq).drew).trans hx (fun _ h => h.elim)
                      have b0 := hb 0 (by kernel_rfl)
                      clear hp hb
                      refine wantL rfl ⟨.slice (some ad) K.length ca, w1, ?_, Ex.refl _ _, rfl⟩
                      go_simp
                    · intro o ho ρ yl w1 hx hc hf hgl hp hb
                      simp only [List.getElem?_toArray, List.getElem?_cons_succ, List.getElem?_cons_zero, Option.some.injEq] at ho
                      subst ho
                      have hx := ((Ex.refl (fun _ => False) wq).drew).trans hx (fun _ h => h.elim)
                      have b15 := hb 15 (by kernel_rfl)
                      clear hp hb
                      refine wantL rfl ⟨.int .i64 l, w1, ?_, Ex.refl _ _, rfl⟩
                      go_simp
                    · intro o ho ρ yl w1 hx hc hf hgl hp hb
                      simp only [List.getElem?_toArray, List.getElem?_cons_succ, List.getElem?_cons_zero, Option.some.injEq] at ho
                      subst ho
                      have hx := ((Ex.refl (fun _ => False) wq).drew).trans hx (fun _ h => h.elim)
                      obtain ⟨v0, s0, e0, y0⟩ := hp 0 (by kernel_rfl)
                      have e0 := e0 118 rfl
                      obtain rfl : v0 = (.slice (some ad) K.length ca) := s0
                      clear y0
                      obtain ⟨v1, s1, e1, y1⟩ := hp 1 (by kernel_rfl)
                      have e1 := e1 119 rfl
                      obtain rfl : v1 = (.int .i64 l) := s1
                      clear y1
                      clear hp hb
                      refine wantL rfl ⟨.pointer (some (ad.add (l * 5))), w1, ?_, Ex.refl _ _, rfl⟩
                      go_simp
                    · intro o ho ρ yl w1 hx hc hf hgl hp hb
                      simp only [List.getElem?_toArray, List.getElem?_cons_succ, List.getElem?_cons_zero, Option.some.injEq] at ho
                      subst ho
                      have hx := ((Ex.refl (fun _ => False) wq).drew).trans hx (fun _ h => h.elim)
                      obtain ⟨v2, s2, e2, y2⟩ := hp 2 (by kernel_rfl)
                      have e2 := e2 120 rfl
                      obtain rfl : v2 = (.pointer (some (ad.add (l * 5)))) := s2
                      clear y2
                      clear hp hb
                      obtain ⟨h0, h1, h2, h3, h4⟩ := HCL.out _ w1 (HQ.out.trans hx (fun _ h => h.elim)) (fun _ _ h => h)
                      refine wantL rfl ⟨.agg #[.int .u8 kx.f0, .int .i64 kx.f1, .string kx.f2, .slice A3 kx.f3.length c3, .int .i64 kx.f4], w1, ?_, Ex.refl _ _, rfl⟩
                      go_simp
                    · intro o ho ρ yl w1 hx hc hf hgl hp hb
                      simp only [List.getElem?_toArray, List.getElem?_cons_succ, List.getElem?_cons_zero, Option.some.injEq] at ho
                      subst ho
                      have hx := ((Ex.refl (fun _ => False) wq).drew).trans hx (fun _ h => h.elim)
                      have b6 := hb 6 (by kernel_rfl)
                      clear hp hb
                      refine wantL rfl ⟨.slice (some ⟨gm, 0, none⟩) es.length cm, w1, ?_, Ex.refl _ _, rfl⟩
                      go_simp
                    · intro o ho ρ yl w1 hx hc hf hgl hp hb
                      simp only [List.getElem?_toArray, List.getElem?_cons_succ, List.getElem?_cons_zero, Option.some.injEq] at ho
                      subst ho
                      have hx := ((Ex.refl (fun _ => False) wq).drew).trans hx (fun _ h => h.elim)
                      have b13 := hb 13 (by kernel_rfl)
                      clear hp hb
                      refine wantL rfl ⟨.int .i64 p, w1, ?_, Ex.refl _ _, rfl⟩
                      go_simp
                    · intro o ho ρ yl w1 hx hc hf hgl hp hb
                      simp only [List.getElem?_toArray, List.getElem?_cons_succ, List.getElem?_cons_zero, Option.some.injEq] at ho
                      subst ho
                      have hx := ((Ex.refl (fun _ => False) wq).drew).trans hx (fun _ h => h.elim)
                      obtain ⟨v4, s4, e4, y4⟩ := hp 4 (by kernel_rfl)
                      have e4 := e4 122 rfl
                      obtain rfl : v4 = (.slice (some ⟨gm, 0, none⟩) es.length cm) := s4
                      clear y4
                      obtain ⟨v5, s5, e5, y5⟩ := hp 5 (by kernel_rfl)
                      have e5 := e5 123 rfl
                      obtain rfl : v5 = (.int .i64 p) := s5
                      clear y5
                      clear hp hb
                      refine wantL rfl ⟨.pointer (some ⟨gm, p * 5, none⟩), w1, ?_, Ex.refl _ _, rfl⟩
                      go_simp
                    · intro o ho ρ yl w1 hx hc hf hgl hp hb
                      simp only [List.getElem?_toArray, List.getElem?_cons_succ, List.getElem?_cons_zero, Option.some.injEq] at ho
                      subst ho
                      have hx := ((Ex.refl (fun _ => False) wq).drew).trans hx (fun _ h => h.elim)
                      obtain ⟨v6, s6, e6, y6⟩ := hp 6 (by kernel_rfl)
                      have e6 := e6 124 rfl
                      obtain rfl : v6 = (.pointer (some ⟨gm, p * 5, none⟩)) := s6
                      clear y6
                      clear hp hb
                      have hlg := block_lt_of_cell (HCE.out 0 _ rfl)
                      have h0 : w1.cell? ⟨gm, p * 5, none⟩ = some (.int .u8 e.x.f0) := (((HI.out.trans HQ.out (fun _ h => h.elim)).trans hx (fun _ h => h.elim)).cell hlg (fun h => h) _).trans (HCE.out 0 _ rfl)
                      have h1 : w1.cell? ⟨gm, p * 5 + 1, none⟩ = some (.int .i64 e.x.f1) := (((HI.out.trans HQ.out (fun _ h => h.elim)).trans hx (fun _ h => h.elim)).cell hlg (fun h => h) _).trans (HCE.out 1 _ rfl)
                      have h2 : w1.cell? ⟨gm, p * 5 + 2, none⟩ = some (.string e.x.f2) := (((HI.out.trans HQ.out (fun _ h => h.elim)).trans hx (fun _ h => h.elim)).cell hlg (fun h => h) _).trans (HCE.out 2 _ rfl)
                      have h3 : w1.cell? ⟨gm, p * 5 + 3, none⟩ = some (.slice e.A e.x.f3.length e.c) := (((HI.out.trans HQ.out (fun _ h => h.elim)).trans hx (fun _ h => h.elim)).cell hlg (fun h => h) _).trans (HCE.out 3 _ rfl)
                      have h4 : w1.cell? ⟨gm, p * 5 + 4, none⟩ = some (.int .i64 e.x.f4) := (((HI.out.trans HQ.out (fun _ h => h.elim)).trans hx (fun _ h => h.elim)).cell hlg (fun h => h) _).trans (HCE.out 4 _ rfl)
                      refine wantL rfl ⟨.agg #[.int .u8 e.x.f0, .int .i64 e.x.f1, .string e.x.f2, .slice e.A e.x.f3.length e.c, .int .i64 e.x.f4], w1, ?_, Ex.refl _ _, rfl⟩
                      go_simp
                    · intro o ho ρ yl w1 hx hc hf hgl hp hb
                      simp only [List.getElem?_toArray, List.getElem?_cons_succ, List.getElem?_cons_zero, Option.some.injEq] at ho
                      subst ho
                      have hx := ((Ex.refl (fun _ => False) wq).drew).trans hx (fun _ h => h.elim)
                      obtain ⟨v3, s3, e3, y3⟩ := hp 3 (by kernel_rfl)
                      have e3 := e3 121 rfl
                      obtain rfl : v3 = (.agg #[.int .u8 kx.f0, .int .i64 kx.f1, .string kx.f2, .slice A3 kx.f3.length c3, .int .i64 kx.f4]) := s3
                      clear y3
                      obtain ⟨v7, s7, e7, y7⟩ := hp 7 (by kernel_rfl)
                      have e7 := e7 125 rfl
                      obtain rfl : v7 = (.agg #[.int .u8 e.x.f0, .int .i64 e.x.f1, .string e.x.f2, .slice e.A e.x.f3.length e.c, .int .i64 e.x.f4]) := s7
                      clear y7
                      clear hp hb
                      refine wantR rfl ⟨16, #[.agg #[.int .u8 kx.f0, .int .i64 kx.f1, .string kx.f2, .slice A3 kx.f3.length c3, .int .i64 kx.f4], .agg #[.int .u8 e.x.f0, .int .i64 e.x.f1, .string e.x.f2, .slice e.A e.x.f3.length e.c, .int .i64 e.x.f4]], exec_call' Try.func16 (by kernel_rfl) rfl _ rfl (by simp [e3, e7]) (hf 16), ?_⟩
                      refine (alike_calls kx e.x A3 e.A c3 e.c _ HC3.out.1 (Kd.F_now (ex_F (HQ.out.trans hx (fun _ h => h.elim)) HF3.out (fun _ _ h => h))) HEG.out.le (Kd.F_now (ex_F (HQ.out.trans hx (fun _ h => h.elim)) HEG.out.F (fun _ _ h => h))) HWK.out).mono ?_
                      rintro e' wq ⟨rfl, hq0⟩
                      exact ⟨_, rfl, Ex.of_below hq0, by rw [HEQ.out]; rfl⟩
                    · intro o ho ρ yl w1 hx hc hf hgl hp hb
                      simp only [List.getElem?_toArray, List.getElem?_cons_succ, List.getElem?_cons_zero, Option.some.injEq] at ho
                      subst ho
                      have hx := ((Ex.refl (fun _ => False) wq).drew).trans hx (fun _ h => h.elim)
                      obtain ⟨v8, s8, e8, y8⟩ := hp 8 (by kernel_rfl)
                      have e8 := e8 126 rfl
                      obtain rfl : v8 = (.bool false) := s8
                      clear y8
                      clear hp hb
                      refine wantL rfl ⟨.bool false, w1, ?_, Ex.refl _ _, rfl⟩
                      go_simp
                    · intro o ho ρ yl w1 hx hc hf hgl hp hb
                      simp only [List.getElem?_toArray, List.getElem?_cons_succ, List.getElem?_cons_zero, Option.some.injEq] at ho
                      subst ho
                      have hx := ((Ex.refl (fun _ => False) wq).drew).trans hx (fun _ h => h.elim)
                      obtain ⟨v9, s9, e9, y9⟩ := hp 9 (by kernel_rfl)
                      have e9 := e9 127 rfl
                      obtain rfl : v9 = (.bool false) := s9
                      have y9 := y9 rfl
                      have b17 := hb 17 (by kernel_rfl)
                      clear hp hb
                      refine unwant (by simp [Region.wanted, y9]) trivial
                    · intro o ho ρ yl w1 hx hc hf hgl hp hb
                      simp only [List.getElem?_toArray, List.getElem?_cons_succ, List.getElem?_cons_zero, Option.some.injEq] at ho
                      subst ho
                      have hx := ((Ex.refl (fun _ => False) wq).drew).trans hx (fun _ h => h.elim)
                      obtain ⟨v10, s10, e10, y10⟩ := hp 10 (by kernel_rfl)
                      have e10 := e10 128 rfl
                      have s10 : (fun _ _ => True) v10 w1 := s10
                      clear y10
                      obtain ⟨v9, s9, e9, y9⟩ := hp 9 (by kernel_rfl)
                      have e9 := e9 127 rfl
                      obtain rfl : v9 = (.bool false) := s9
                      have y9 := y9 rfl
                      clear hp hb
                      refine unwant (by simp [Region.wanted, y9]) trivial
                    · intro o ho ρ yl w1 hx hc hf hgl hp hb
                      simp only [List.getElem?_toArray, List.getElem?_cons_succ, List.getElem?_cons_zero, Option.some.injEq] at ho
                      subst ho
                      have hx := ((Ex.refl (fun _ => False) wq).drew).trans hx (fun _ h => h.elim)
                      obtain ⟨v9, s9, e9, y9⟩ := hp 9 (by kernel_rfl)
                      have e9 := e9 127 rfl
                      obtain rfl : v9 = (.bool false) := s9
                      clear y9
                      obtain ⟨v11, s11, e11, y11⟩ := hp 11 (by kernel_rfl)
                      have e11 := e11 129 rfl
                      have s11 : (fun _ _ => True) v11 w1 := s11
                      clear y11
                      clear hp hb
                      refine wantL rfl ⟨.bool false, w1, ?_, Ex.refl _ _, rfl⟩
                      go_simp
                  · intro i hil
                    exact absurd hil (by simp)
                  · intro xs w1 hx hs KQ hKK
                    have s0 : xs 0 = (.slice (some ad) K.length ca) := hs 0 (by omega)
                    have s1 : xs 1 = (.int .i64 l) := hs 1 (by omega)
                    have s2 : xs 2 = (.pointer (some (ad.add (l * 5)))) := hs 2 (by omega)
                    have s3 : xs 3 = (.agg #[.int .u8 kx.f0, .int .i64 kx.f1, .string kx.f2, .slice A3 kx.f3.length c3, .int .i64 kx.f4]) := hs 3 (by omega)
                    have s4 : xs 4 = (.slice (some ⟨gm, 0, none⟩) es.length cm) := hs 4 (by omega)
                    have s5 : xs 5 = (.int .i64 p) := hs 5 (by omega)
                    have s6 : xs 6 = (.pointer (some ⟨gm, p * 5, none⟩)) := hs 6 (by omega)
                    have s7 : xs 7 = (.agg #[.int .u8 e.x.f0, .int .i64 e.x.f1, .string e.x.f2, .slice e.A e.x.f3.length e.c, .int .i64 e.x.f4]) := hs 7 (by omega)
                    have s8 : xs 8 = (.bool false) := hs 8 (by omega)
                    have s9 : xs 9 = (.bool false) := hs 9 (by omega)
                    have s10 : (fun _ _ => True) (xs 10) w1 := hs 10 (by omega)
                    have s11 : (fun _ _ => True) (xs 11) w1 := hs 11 (by omega)
                    have s12 : xs 12 = (.bool false) := hs 12 (by omega)
                    clear hs
                    simp only [putSlots, dstOf, List.getElem?_toArray, List.getElem?_cons_succ, List.getElem?_cons_zero, Option.bind_some, List.setIfInBounds_toArray, List.set_cons_zero, List.set_cons_succ, List.drop_succ_cons, List.drop_zero]
                    rw [s0, s1, s2, s3, s4, s5, s6, s7, s8, s9, s12]
                    clear s0 s1 s2 s3 s4 s5 s6 s7 s8 s9 s12
                    have HX1 := Aside0.mk hx
                    clear hx
                    go_wp2_with fail
                    go_roundg (gk - 1)
                    case measure => have := HLM.out; omega
                    case rel => exact ⟨l + 1, by go_num, by rw [HNX.out, HEQ.out, HMV.out]; simp, ⟨by have := HLM.out; omega⟩, ⟨HQ.out.trans HX1.out (fun _ h => h.elim)⟩⟩
                | true =>
                  have HEQ := Aside0.mk heq
                  clear heq
                  obtain ⟨h0, h1, h2, h3, h4⟩ := HDL.out _ wr HJ.out (fun _ _ h => h)
                  go_wp2_with fail
                  refine (of_no vx B3 d3 _ (fun k => k < w.heap.size) (ex_F HJ.out HG3.out (fun _ _ h => h)) HMV.out).mono ?_
                  rintro e' wq ⟨rfl, hq⟩
                  have HQ := Aside0.mk (HJ.out.trans hq (fun _ h => h.elim))
                  clear hq h0 h1 h2 h3 h4
                  go_upto_region 29 with (fail)
                  refine region_by 13 [] (specL [Is (.slice (some ad) K.length ca), Is (.int .i64 l), Is (.pointer (some (ad.add (l * 5)))), Is (.agg #[.int .u8 kx.f0, .int .i64 kx.f1, .string kx.f2, .slice A3 kx.f3.length c3, .int .i64 kx.f4]), Is (.slice (some ⟨gm, 0, none⟩) es.length cm), Is (.int .i64 p), Is (.pointer (some ⟨gm, p * 5, none⟩)), Is (.agg #[.int .u8 e.x.f0, .int .i64 e.x.f1, .string e.x.f2, .slice e.A e.x.f3.length e.c, .int .i64 e.x.f4]), Is (.bool true), Is (.bool true), Is (.int .i64 2), Is (.bool false), Is (.bool false)]) (by decide) (by decide) (by kernel_rfl) (by kernel_rfl) (stab_all (stab_cons (stab_is _) (stab_cons (stab_is _) (stab_cons (stab_is _) (stab_cons (stab_is _) (stab_cons (stab_is _) (stab_cons (stab_is _) (stab_cons (stab_is _) (stab_cons (stab_is _) (stab_cons (stab_is _) (stab_cons (stab_is _) (stab_cons (stab_is _) (stab_cons (stab_is _) (stab_cons (stab_is _) (stab_nil))))))))))))))) ?_ ?_ ?_
                  · intro i hi hnl
                    obtain rfl | rfl | rfl | rfl | rfl | rfl | rfl | rfl | rfl | rfl | rfl | rfl | rfl : i = 0 ∨ i = 1 ∨ i = 2 ∨ i = 3 ∨ i = 4 ∨ i = 5 ∨ i = 6 ∨ i = 7 ∨ i = 8 ∨ i = 9 ∨ i = 10 ∨ i = 11 ∨ i = 12 := by omega
                    · intro o ho ρ yl w1 hx hc hf hgl hp hb
                      simp only [List.getElem?_toArray, List.getElem?_cons_succ, List.getElem?_cons_zero, Option.some.injEq] at ho
                      subst ho
                      have hx := ((Ex.refl (fun _ => False) wq).drew).trans hx (fun _ h => h.elim)
                      have b0 := hb 0 (by kernel_rfl)
                      clear hp hb
                      refine wantL rfl ⟨.slice (some ad) K.length ca, w1, ?_, Ex.refl _ _, rfl⟩
                      go_simp
                    · intro o ho ρ yl w1 hx hc hf hgl hp hb
                      simp only [List.getElem?_toArray, List.getElem?_cons_succ, List.getElem?_cons_zero, Option.some.injEq] at ho
                      subst ho
                      have hx := ((Ex.refl (fun _ => False) wq).drew).trans hx (fun _ h => h.elim)
                      have b15 := hb 15 (by kernel_rfl)
                      clear hp hb
                      refine wantL rfl ⟨.int .i64 l, w1, ?_, Ex.refl _ _, rfl⟩
                      go_simp
                    · intro o ho ρ yl w1 hx hc hf hgl hp hb
                      simp only [List.getElem?_toArray, List.getElem?_cons_succ, List.getElem?_cons_zero, Option.some.injEq] at ho
                      subst ho
                      have hx := ((Ex.refl (fun _ => False) wq).drew).trans hx (fun _ h => h.elim)
                      obtain ⟨v0, s0, e0, y0⟩ := hp 0 (by kernel_rfl)
                      have e0 := e0 118 rfl
                      obtain rfl : v0 = (.slice (some ad) K.length ca) := s0
                      clear y0
                      obtain ⟨v1, s1, e1, y1⟩ := hp 1 (by kernel_rfl)
                      have e1 := e1 119 rfl
                      obtain rfl : v1 = (.int .i64 l) := s1
                      clear y1
                      clear hp hb
                      refine wantL rfl ⟨.pointer (some (ad.add (l * 5))), w1, ?_, Ex.refl _ _, rfl⟩
                      go_simp
                    · intro o ho ρ yl w1 hx hc hf hgl hp hb
                      simp only [List.getElem?_toArray, List.getElem?_cons_succ, List.getElem?_cons_zero, Option.some.injEq] at ho
                      subst ho
                      have hx := ((Ex.refl (fun _ => False) wq).drew).trans hx (fun _ h => h.elim)
                      obtain ⟨v2, s2, e2, y2⟩ := hp 2 (by kernel_rfl)
                      have e2 := e2 120 rfl
                      obtain rfl : v2 = (.pointer (some (ad.add (l * 5)))) := s2
                      clear y2
                      clear hp hb
                      obtain ⟨h0, h1, h2, h3, h4⟩ := HCL.out _ w1 (HQ.out.trans hx (fun _ h => h.elim)) (fun _ _ h => h)
                      refine wantL rfl ⟨.agg #[.int .u8 kx.f0, .int .i64 kx.f1, .string kx.f2, .slice A3 kx.f3.length c3, .int .i64 kx.f4], w1, ?_, Ex.refl _ _, rfl⟩
                      go_simp
                    · intro o ho ρ yl w1 hx hc hf hgl hp hb
                      simp only [List.getElem?_toArray, List.getElem?_cons_succ, List.getElem?_cons_zero, Option.some.injEq] at ho
                      subst ho
                      have hx := ((Ex.refl (fun _ => False) wq).drew).trans hx (fun _ h => h.elim)
                      have b6 := hb 6 (by kernel_rfl)
                      clear hp hb
                      refine wantL rfl ⟨.slice (some ⟨gm, 0, none⟩) es.length cm, w1, ?_, Ex.refl _ _, rfl⟩
                      go_simp
                    · intro o ho ρ yl w1 hx hc hf hgl hp hb
                      simp only [List.getElem?_toArray, List.getElem?_cons_succ, List.getElem?_cons_zero, Option.some.injEq] at ho
                      subst ho
                      have hx := ((Ex.refl (fun _ => False) wq).drew).trans hx (fun _ h => h.elim)
                      have b13 := hb 13 (by kernel_rfl)
                      clear hp hb
                      refine wantL rfl ⟨.int .i64 p, w1, ?_, Ex.refl _ _, rfl⟩
                      go_simp
                    · intro o ho ρ yl w1 hx hc hf hgl hp hb
                      simp only [List.getElem?_toArray, List.getElem?_cons_succ, List.getElem?_cons_zero, Option.some.injEq] at ho
                      subst ho
                      have hx := ((Ex.refl (fun _ => False) wq).drew).trans hx (fun _ h => h.elim)
                      obtain ⟨v4, s4, e4, y4⟩ := hp 4 (by kernel_rfl)
                      have e4 := e4 122 rfl
                      obtain rfl : v4 = (.slice (some ⟨gm, 0, none⟩) es.length cm) := s4
                      clear y4
                      obtain ⟨v5, s5, e5, y5⟩ := hp 5 (by kernel_rfl)
                      have e5 := e5 123 rfl
                      obtain rfl : v5 = (.int .i64 p) := s5
                      clear y5
                      clear hp hb
                      refine wantL rfl ⟨.pointer (some ⟨gm, p * 5, none⟩), w1, ?_, Ex.refl _ _, rfl⟩
                      go_simp
                    · intro o ho ρ yl w1 hx hc hf hgl hp hb
                      simp only [List.getElem?_toArray, List.getElem?_cons_succ, List.getElem?_cons_zero, Option.some.injEq] at ho
                      subst ho
                      have hx := ((Ex.refl (fun _ => False) wq).drew).trans hx (fun _ h => h.elim)
                      obtain ⟨v6, s6, e6, y6⟩ := hp 6 (by kernel_rfl)
                      have e6 := e6 124 rfl
                      obtain rfl : v6 = (.pointer (some ⟨gm, p * 5, none⟩)) := s6
                      clear y6
                      clear hp hb
                      have hlg := block_lt_of_cell (HCE.out 0 _ rfl)
                      have h0 : w1.cell? ⟨gm, p * 5, none⟩ = some (.int .u8 e.x.f0) := (((HI.out.trans HQ.out (fun _ h => h.elim)).trans hx (fun _ h => h.elim)).cell hlg (fun h => h) _).trans (HCE.out 0 _ rfl)
                      have h1 : w1.cell? ⟨gm, p * 5 + 1, none⟩ = some (.int .i64 e.x.f1) := (((HI.out.trans HQ.out (fun _ h => h.elim)).trans hx (fun _ h => h.elim)).cell hlg (fun h => h) _).trans (HCE.out 1 _ rfl)
                      have h2 : w1.cell? ⟨gm, p * 5 + 2, none⟩ = some (.string e.x.f2) := (((HI.out.trans HQ.out (fun _ h => h.elim)).trans hx (fun _ h => h.elim)).cell hlg (fun h => h) _).trans (HCE.out 2 _ rfl)
                      have h3 : w1.cell? ⟨gm, p * 5 + 3, none⟩ = some (.slice e.A e.x.f3.length e.c) := (((HI.out.trans HQ.out (fun _ h => h.elim)).trans hx (fun _ h => h.elim)).cell hlg (fun h => h) _).trans (HCE.out 3 _ rfl)
                      have h4 : w1.cell? ⟨gm, p * 5 + 4, none⟩ = some (.int .i64 e.x.f4) := (((HI.out.trans HQ.out (fun _ h => h.elim)).trans hx (fun _ h => h.elim)).cell hlg (fun h => h) _).trans (HCE.out 4 _ rfl)
                      refine wantL rfl ⟨.agg #[.int .u8 e.x.f0, .int .i64 e.x.f1, .string e.x.f2, .slice e.A e.x.f3.length e.c, .int .i64 e.x.f4], w1, ?_, Ex.refl _ _, rfl⟩
                      go_simp
                    · intro o ho ρ yl w1 hx hc hf hgl hp hb
                      simp only [List.getElem?_toArray, List.getElem?_cons_succ, List.getElem?_cons_zero, Option.some.injEq] at ho
                      subst ho
                      have hx := ((Ex.refl (fun _ => False) wq).drew).trans hx (fun _ h => h.elim)
                      obtain ⟨v3, s3, e3, y3⟩ := hp 3 (by kernel_rfl)
                      have e3 := e3 121 rfl
                      obtain rfl : v3 = (.agg #[.int .u8 kx.f0, .int .i64 kx.f1, .string kx.f2, .slice A3 kx.f3.length c3, .int .i64 kx.f4]) := s3
                      clear y3
                      obtain ⟨v7, s7, e7, y7⟩ := hp 7 (by kernel_rfl)
                      have e7 := e7 125 rfl
                      obtain rfl : v7 = (.agg #[.int .u8 e.x.f0, .int .i64 e.x.f1, .string e.x.f2, .slice e.A e.x.f3.length e.c, .int .i64 e.x.f4]) := s7
                      clear y7
                      clear hp hb
                      refine wantR rfl ⟨16, #[.agg #[.int .u8 kx.f0, .int .i64 kx.f1, .string kx.f2, .slice A3 kx.f3.length c3, .int .i64 kx.f4], .agg #[.int .u8 e.x.f0, .int .i64 e.x.f1, .string e.x.f2, .slice e.A e.x.f3.length e.c, .int .i64 e.x.f4]], exec_call' Try.func16 (by kernel_rfl) rfl _ rfl (by simp [e3, e7]) (hf 16), ?_⟩
                      refine (alike_calls kx e.x A3 e.A c3 e.c _ HC3.out.1 (Kd.F_now (ex_F (HQ.out.trans hx (fun _ h => h.elim)) HF3.out (fun _ _ h => h))) HEG.out.le (Kd.F_now (ex_F (HQ.out.trans hx (fun _ h => h.elim)) HEG.out.F (fun _ _ h => h))) HWK.out).mono ?_
                      rintro e' wq ⟨rfl, hq0⟩
                      exact ⟨_, rfl, Ex.of_below hq0, by rw [HEQ.out]; rfl⟩
                    · intro o ho ρ yl w1 hx hc hf hgl hp hb
                      simp only [List.getElem?_toArray, List.getElem?_cons_succ, List.getElem?_cons_zero, Option.some.injEq] at ho
                      subst ho
                      have hx := ((Ex.refl (fun _ => False) wq).drew).trans hx (fun _ h => h.elim)
                      obtain ⟨v8, s8, e8, y8⟩ := hp 8 (by kernel_rfl)
                      have e8 := e8 126 rfl
                      obtain rfl : v8 = (.bool true) := s8
                      clear y8
                      clear hp hb
                      refine wantL rfl ⟨.bool true, w1, ?_, Ex.refl _ _, rfl⟩
                      go_simp
                    · intro o ho ρ yl w1 hx hc hf hgl hp hb
                      simp only [List.getElem?_toArray, List.getElem?_cons_succ, List.getElem?_cons_zero, Option.some.injEq] at ho
                      subst ho
                      have hx := ((Ex.refl (fun _ => False) wq).drew).trans hx (fun _ h => h.elim)
                      obtain ⟨v9, s9, e9, y9⟩ := hp 9 (by kernel_rfl)
                      have e9 := e9 127 rfl
                      obtain rfl : v9 = (.bool true) := s9
                      have y9 := y9 rfl
                      have b17 := hb 17 (by kernel_rfl)
                      clear hp hb
                      refine wantL (by simp [Region.wanted, y9]) ⟨.int .i64 2, w1, ?_, Ex.refl _ _, rfl⟩
                      go_simp
                    · intro o ho ρ yl w1 hx hc hf hgl hp hb
                      simp only [List.getElem?_toArray, List.getElem?_cons_succ, List.getElem?_cons_zero, Option.some.injEq] at ho
                      subst ho
                      have hx := ((Ex.refl (fun _ => False) wq).drew).trans hx (fun _ h => h.elim)
                      obtain ⟨v10, s10, e10, y10⟩ := hp 10 (by kernel_rfl)
                      have e10 := e10 128 rfl
                      obtain rfl : v10 = (.int .i64 2) := s10
                      clear y10
                      obtain ⟨v9, s9, e9, y9⟩ := hp 9 (by kernel_rfl)
                      have e9 := e9 127 rfl
                      obtain rfl : v9 = (.bool true) := s9
                      have y9 := y9 rfl
                      clear hp hb
                      refine wantL (by simp [Region.wanted, y9]) ⟨.bool false, w1, ?_, Ex.refl _ _, rfl⟩
                      go_simp
                    · intro o ho ρ yl w1 hx hc hf hgl hp hb
                      simp only [List.getElem?_toArray, List.getElem?_cons_succ, List.getElem?_cons_zero, Option.some.injEq] at ho
                      subst ho
                      have hx := ((Ex.refl (fun _ => False) wq).drew).trans hx (fun _ h => h.elim)
                      obtain ⟨v9, s9, e9, y9⟩ := hp 9 (by kernel_rfl)
                      have e9 := e9 127 rfl
                      obtain rfl : v9 = (.bool true) := s9
                      clear y9
                      obtain ⟨v11, s11, e11, y11⟩ := hp 11 (by kernel_rfl)
                      have e11 := e11 129 rfl
                      obtain rfl : v11 = (.bool false) := s11
                      clear y11
                      clear hp hb
                      refine wantL rfl ⟨.bool false, w1, ?_, Ex.refl _ _, rfl⟩
                      go_simp
                  · intro i hil
                    exact absurd hil (by simp)
                  · intro xs w1 hx hs KQ hKK
                    have s0 : xs 0 = (.slice (some ad) K.length ca) := hs 0 (by omega)
                    have s1 : xs 1 = (.int .i64 l) := hs 1 (by omega)
                    have s2 : xs 2 = (.pointer (some (ad.add (l * 5)))) := hs 2 (by omega)
                    have s3 : xs 3 = (.agg #[.int .u8 kx.f0, .int .i64 kx.f1, .string kx.f2, .slice A3 kx.f3.length c3, .int .i64 kx.f4]) := hs 3 (by omega)
                    have s4 : xs 4 = (.slice (some ⟨gm, 0, none⟩) es.length cm) := hs 4 (by omega)
                    have s5 : xs 5 = (.int .i64 p) := hs 5 (by omega)
                    have s6 : xs 6 = (.pointer (some ⟨gm, p * 5, none⟩)) := hs 6 (by omega)
                    have s7 : xs 7 = (.agg #[.int .u8 e.x.f0, .int .i64 e.x.f1, .string e.x.f2, .slice e.A e.x.f3.length e.c, .int .i64 e.x.f4]) := hs 7 (by omega)
                    have s8 : xs 8 = (.bool true) := hs 8 (by omega)
                    have s9 : xs 9 = (.bool true) := hs 9 (by omega)
                    have s10 : xs 10 = (.int .i64 2) := hs 10 (by omega)
                    have s11 : xs 11 = (.bool false) := hs 11 (by omega)
                    have s12 : xs 12 = (.bool false) := hs 12 (by omega)
                    clear hs
                    simp only [putSlots, dstOf, List.getElem?_toArray, List.getElem?_cons_succ, List.getElem?_cons_zero, Option.bind_some, List.setIfInBounds_toArray, List.set_cons_zero, List.set_cons_succ, List.drop_succ_cons, List.drop_zero]
                    rw [s0, s1, s2, s3, s4, s5, s6, s7, s8, s9, s10, s11, s12]
                    clear s0 s1 s2 s3 s4 s5 s6 s7 s8 s9 s10 s11 s12
                    have HX1 := Aside0.mk hx
                    clear hx
                    go_wp2_with fail
                    go_roundg (gk - 1)
                    case measure => have := HLM.out; omega
                    case rel => exact ⟨l + 1, by go_num, by rw [HNX.out, HEQ.out, HMV.out]; simp, ⟨by have := HLM.out; omega⟩, ⟨HQ.out.trans HX1.out (fun _ h => h.elim)⟩⟩
              | true =>
                have HMV := Aside0.mk hmv
                clear hmv
                cases heq : eqV kx e.x with
                | false =>
                  have HEQ := Aside0.mk heq
                  clear heq
                  obtain ⟨h0, h1, h2, h3, h4⟩ := HDL.out _ wr HJ.out (fun _ _ h => h)
                  go_wp2_with fail
                  refine (of_yes vx B3 d3 _ (fun k => k < w.heap.size) (ex_F HJ.out HG3.out (fun _ _ h => h)) HMV.out).mono ?_
                  rintro e' wq ⟨m, _, _, rfl, hq⟩
                  obtain ⟨t1, u1, hu1⟩ := m.val_iface
                  rw [hu1]
                  clear hu1
                  have HQ := Aside0.mk (HJ.out.trans hq (fun _ h => h.elim))
                  clear hq h0 h1 h2 h3 h4
                  go_upto_region 29 with (fail)
                  refine region_by 13 [] (specL [Is (.slice (some ad) K.length ca), Is (.int .i64 l), Is (.pointer (some (ad.add (l * 5)))), Is (.agg #[.int .u8 kx.f0, .int .i64 kx.f1, .string kx.f2, .slice A3 kx.f3.length c3, .int .i64 kx.f4]), Is (.slice (some ⟨gm, 0, none⟩) es.length cm), Is (.int .i64 p), Is (.pointer (some ⟨gm, p * 5, none⟩)), Is (.agg #[.int .u8 e.x.f0, .int .i64 e.x.f1, .string e.x.f2, .slice e.A e.x.f3.length e.c, .int .i64 e.x.f4]), Is (.bool false), Is (.bool false), fun _ _ => True, fun _ _ => True, Is (.bool false)]) (by decide) (by decide) (by kernel_rfl) (by kernel_rfl) (stab_all (stab_cons (stab_is _) (stab_cons (stab_is _) (stab_cons (stab_is _) (stab_cons (stab_is _) (stab_cons (stab_is _) (stab_cons (stab_is _) (stab_cons (stab_is _) (stab_cons (stab_is _) (stab_cons (stab_is _) (stab_cons (stab_is _) (stab_cons ((fun _ _ _ h _ => h)) (stab_cons ((fun _ _ _ h _ => h)) (stab_cons (stab_is _) (stab_nil))))))))))))))) ?_ ?_ ?_
                  · intro i hi hnl
                    obtain rfl | rfl | rfl | rfl | rfl | rfl | rfl | rfl | rfl | rfl | rfl | rfl | rfl : i = 0 ∨ i = 1 ∨ i = 2 ∨ i = 3 ∨ i = 4 ∨ i = 5 ∨ i = 6 ∨ i = 7 ∨ i = 8 ∨ i = 9 ∨ i = 10 ∨ i = 11 ∨ i = 12 := by omega
                    · intro o ho ρ yl w1 hx hc hf hgl hp hb
                      simp only [List.getElem?_toArray, List.getElem?_cons_succ, List.getElem?_cons_zero, Option.some.injEq] at ho
                      subst ho
                      have hx := ((Ex.refl (fun _ => False) wq).drew).trans hx (fun _ h => h.elim)
                      have b0 := hb 0 (by kernel_rfl)
                      clear hp hb
                      refine wantL rfl ⟨.slice (some ad) K.length ca, w1, ?_, Ex.refl _ _, rfl⟩
                      go_simp
                    · intro o ho ρ yl w1 hx hc hf hgl hp hb
                      simp only [List.getElem?_toArray, List.getElem?_cons_succ, List.getElem?_cons_zero, Option.some.injEq] at ho
                      subst ho
                      have hx := ((Ex.refl (fun _ => False) wq).drew).trans hx (fun _ h => h.elim)
                      have b15 := hb 15 (by kernel_rfl)
                      clear hp hb
                      refine wantL rfl ⟨.int .i64 l, w1, ?_, Ex.refl _ _, rfl⟩
                      go_simp
                    · intro o ho ρ yl w1 hx hc hf hgl hp hb
                      simp only [List.getElem?_toArray, List.getElem?_cons_succ, List.getElem?_cons_zero, Option.some.injEq] at ho
                      subst ho
                      have hx := ((Ex.refl (fun _ => False) wq).drew).trans hx (fun _ h => h.elim)
                      obtain ⟨v0, s0, e0, y0⟩ := hp 0 (by kernel_rfl)
                      have e0 := e0 118 rfl
                      obtain rfl : v0 = (.slice (some ad) K.length ca) := s0
                      clear y0
                      obtain ⟨v1, s1, e1, y1⟩ := hp 1 (by kernel_rfl)
                      have e1 := e1 119 rfl
                      obtain rfl : v1 = (.int .i64 l) := s1
                      clear y1
                      clear hp hb
                      refine wantL rfl ⟨.pointer (some (ad.add (l * 5))), w1, ?_, Ex.refl _ _, rfl⟩
                      go_simp
                    · intro o ho ρ yl w1 hx hc hf hgl hp hb
                      simp only [List.getElem?_toArray, List.getElem?_cons_succ, List.getElem?_cons_zero, Option.some.injEq] at ho
                      subst ho
                      have hx := ((Ex.refl (fun _ => False) wq).drew).trans hx (fun _ h => h.elim)
                      obtain ⟨v2, s2, e2, y2⟩ := hp 2 (by kernel_rfl)
                      have e2 := e2 120 rfl
                      obtain rfl : v2 = (.pointer (some (ad.add (l * 5)))) := s2
                      clear y2
                      clear hp hb
                      obtain ⟨h0, h1, h2, h3, h4⟩ := HCL.out _ w1 (HQ.out.trans hx (fun _ h => h.elim)) (fun _ _ h => h)
                      refine wantL rfl ⟨.agg #[.int .u8 kx.f0, .int .i64 kx.f1, .string kx.f2, .slice A3 kx.f3.length c3, .int .i64 kx.f4], w1, ?_, Ex.refl _ _, rfl⟩
                      go_simp
                    · intro o ho ρ yl w1 hx hc hf hgl hp hb
                      simp only [List.getElem?_toArray, List.getElem?_cons_succ, List.getElem?_cons_zero, Option.some.injEq] at ho
                      subst ho
                      have hx := ((Ex.refl (fun _ => False) wq).drew).trans hx (fun _ h => h.elim)
                      have b6 := hb 6 (by kernel_rfl)
                      clear hp hb
                      refine wantL rfl ⟨.slice (some ⟨gm, 0, none⟩) es.length cm, w1, ?_, Ex.refl _ _, rfl⟩
                      go_simp
                    · intro o ho ρ yl w1 hx hc hf hgl hp hb
                      simp only [List.getElem?_toArray, List.getElem?_cons_succ, List.getElem?_cons_zero, Option.some.injEq] at ho
                      subst ho
                      have hx := ((Ex.refl (fun _ => False) wq).drew).trans hx (fun _ h => h.elim)
                      have b13 := hb 13 (by kernel_rfl)
                      clear hp hb
                      refine wantL rfl ⟨.int .i64 p, w1, ?_, Ex.refl _ _, rfl⟩
                      go_simp
                    · intro o ho ρ yl w1 hx hc hf hgl hp hb
                      simp only [List.getElem?_toArray, List.getElem?_cons_succ, List.getElem?_cons_zero, Option.some.injEq] at ho
                      subst ho
                      have hx := ((Ex.refl (fun _ => False) wq).drew).trans hx (fun _ h => h.elim)
                      obtain ⟨v4, s4, e4, y4⟩ := hp 4 (by kernel_rfl)
                      have e4 := e4 122 rfl
                      obtain rfl : v4 = (.slice (some ⟨gm, 0, none⟩) es.length cm) := s4
                      clear y4
                      obtain ⟨v5, s5, e5, y5⟩ := hp 5 (by kernel_rfl)
                      have e5 := e5 123 rfl
                      obtain rfl : v5 = (.int .i64 p) := s5
                      clear y5
                      clear hp hb
                      refine wantL rfl ⟨.pointer (some ⟨gm, p * 5, none⟩), w1, ?_, Ex.refl _ _, rfl⟩
                      go_simp
                    · intro o ho ρ yl w1 hx hc hf hgl hp hb
                      simp only [List.getElem?_toArray, List.getElem?_cons_succ, List.getElem?_cons_zero, Option.some.injEq] at ho
                      subst ho
                      have hx := ((Ex.refl (fun _ => False) wq).drew).trans hx (fun _ h => h.elim)
                      obtain ⟨v6, s6, e6, y6⟩ := hp 6 (by kernel_rfl)
                      have e6 := e6 124 rfl
                      obtain rfl : v6 = (.pointer (some ⟨gm, p * 5, none⟩)) := s6
                      clear y6
                      clear hp hb
                      have hlg := block_lt_of_cell (HCE.out 0 _ rfl)
                      have h0 : w1.cell? ⟨gm, p * 5, none⟩ = some (.int .u8 e.x.f0) := (((HI.out.trans HQ.out (fun _ h => h.elim)).trans hx (fun _ h => h.elim)).cell hlg (fun h => h) _).trans (HCE.out 0 _ rfl)
                      have h1 : w1.cell? ⟨gm, p * 5 + 1, none⟩ = some (.int .i64 e.x.f1) := (((HI.out.trans HQ.out (fun _ h => h.elim)).trans hx (fun _ h => h.elim)).cell hlg (fun h => h) _).trans (HCE.out 1 _ rfl)
                      have h2 : w1.cell? ⟨gm, p * 5 + 2, none⟩ = some (.string e.x.f2) := (((HI.out.trans HQ.out (fun _ h => h.elim)).trans hx (fun _ h => h.elim)).cell hlg (fun h => h) _).trans (HCE.out 2 _ rfl)
                      have h3 : w1.cell? ⟨gm, p * 5 + 3, none⟩ = some (.slice e.A e.x.f3.length e.c) := (((HI.out.trans HQ.out (fun _ h => h.elim)).trans hx (fun _ h => h.elim)).cell hlg (fun h => h) _).trans (HCE.out 3 _ rfl)
                      have h4 : w1.cell? ⟨gm, p * 5 + 4, none⟩ = some (.int .i64 e.x.f4) := (((HI.out.trans HQ.out (fun _ h => h.elim)).trans hx (fun _ h => h.elim)).cell hlg (fun h => h) _).trans (HCE.out 4 _ rfl)
                      refine wantL rfl ⟨.agg #[.int .u8 e.x.f0, .int .i64 e.x.f1, .string e.x.f2, .slice e.A e.x.f3.length e.c, .int .i64 e.x.f4], w1, ?_, Ex.refl _ _, rfl⟩
                      go_simp
                    · intro o ho ρ yl w1 hx hc hf hgl hp hb
                      simp only [List.getElem?_toArray, List.getElem?_cons_succ, List.getElem?_cons_zero, Option.some.injEq] at ho
                      subst ho
                      have hx := ((Ex.refl (fun _ => False) wq).drew).trans hx (fun _ h => h.elim)
                      obtain ⟨v3, s3, e3, y3⟩ := hp 3 (by kernel_rfl)
                      have e3 := e3 121 rfl
                      obtain rfl : v3 = (.agg #[.int .u8 kx.f0, .int .i64 kx.f1, .string kx.f2, .slice A3 kx.f3.length c3, .int .i64 kx.f4]) := s3
                      clear y3
                      obtain ⟨v7, s7, e7, y7⟩ := hp 7 (by kernel_rfl)
                      have e7 := e7 125 rfl
                      obtain rfl : v7 = (.agg #[.int .u8 e.x.f0, .int .i64 e.x.f1, .string e.x.f2, .slice e.A e.x.f3.length e.c, .int .i64 e.x.f4]) := s7
                      clear y7
                      clear hp hb
                      refine wantR rfl ⟨16, #[.agg #[.int .u8 kx.f0, .int .i64 kx.f1, .string kx.f2, .slice A3 kx.f3.length c3, .int .i64 kx.f4], .agg #[.int .u8 e.x.f0, .int .i64 e.x.f1, .string e.x.f2, .slice e.A e.x.f3.length e.c, .int .i64 e.x.f4]], exec_call' Try.func16 (by kernel_rfl) rfl _ rfl (by simp [e3, e7]) (hf 16), ?_⟩
                      refine (alike_calls kx e.x A3 e.A c3 e.c _ HC3.out.1 (Kd.F_now (ex_F (HQ.out.trans hx (fun _ h => h.elim)) HF3.out (fun _ _ h => h))) HEG.out.le (Kd.F_now (ex_F (HQ.out.trans hx (fun _ h => h.elim)) HEG.out.F (fun _ _ h => h))) HWK.out).mono ?_
                      rintro e' wq ⟨rfl, hq0⟩
                      exact ⟨_, rfl, Ex.of_below hq0, by rw [HEQ.out]; rfl⟩
                    · intro o ho ρ yl w1 hx hc hf hgl hp hb
                      simp only [List.getElem?_toArray, List.getElem?_cons_succ, List.getElem?_cons_zero, Option.some.injEq] at ho
                      subst ho
                      have hx := ((Ex.refl (fun _ => False) wq).drew).trans hx (fun _ h => h.elim)
                      obtain ⟨v8, s8, e8, y8⟩ := hp 8 (by kernel_rfl)
                      have e8 := e8 126 rfl
                      obtain rfl : v8 = (.bool false) := s8
                      clear y8
                      clear hp hb
                      refine wantL rfl ⟨.bool false, w1, ?_, Ex.refl _ _, rfl⟩
                      go_simp
                    · intro o ho ρ yl w1 hx hc hf hgl hp hb
                      simp only [List.getElem?_toArray, List.getElem?_cons_succ, List.getElem?_cons_zero, Option.some.injEq] at ho
                      subst ho
                      have hx := ((Ex.refl (fun _ => False) wq).drew).trans hx (fun _ h => h.elim)
                      obtain ⟨v9, s9, e9, y9⟩ := hp 9 (by kernel_rfl)
                      have e9 := e9 127 rfl
                      obtain rfl : v9 = (.bool false) := s9
                      have y9 := y9 rfl
                      have b17 := hb 17 (by kernel_rfl)
                      clear hp hb
                      refine unwant (by simp [Region.wanted, y9]) trivial
                    · intro o ho ρ yl w1 hx hc hf hgl hp hb
                      simp only [List.getElem?_toArray, List.getElem?_cons_succ, List.getElem?_cons_zero, Option.some.injEq] at ho
                      subst ho
                      have hx := ((Ex.refl (fun _ => False) wq).drew).trans hx (fun _ h => h.elim)
                      obtain ⟨v10, s10, e10, y10⟩ := hp 10 (by kernel_rfl)
                      have e10 := e10 128 rfl
                      have s10 : (fun _ _ => True) v10 w1 := s10
                      clear y10
                      obtain ⟨v9, s9, e9, y9⟩ := hp 9 (by kernel_rfl)
                      have e9 := e9 127 rfl
                      obtain rfl : v9 = (.bool false) := s9
                      have y9 := y9 rfl
                      clear hp hb
                      refine unwant (by simp [Region.wanted, y9]) trivial
                    · intro o ho ρ yl w1 hx hc hf hgl hp hb
                      simp only [List.getElem?_toArray, List.getElem?_cons_succ, List.getElem?_cons_zero, Option.some.injEq] at ho
                      subst ho
                      have hx := ((Ex.refl (fun _ => False) wq).drew).trans hx (fun _ h => h.elim)
                      obtain ⟨v9, s9, e9, y9⟩ := hp 9 (by kernel_rfl)
                      have e9 := e9 127 rfl
                      obtain rfl : v9 = (.bool false) := s9
                      clear y9
                      obtain ⟨v11, s11, e11, y11⟩ := hp 11 (by kernel_rfl)
                      have e11 := e11 129 rfl
                      have s11 : (fun _ _ => True) v11 w1 := s11
                      clear y11
                      clear hp hb
                      refine wantL rfl ⟨.bool false, w1, ?_, Ex.refl _ _, rfl⟩
                      go_simp
                  · intro i hil
                    exact absurd hil (by simp)
                  · intro xs w1 hx hs KQ hKK
                    have s0 : xs 0 = (.slice (some ad) K.length ca) := hs 0 (by omega)
                    have s1 : xs 1 = (.int .i64 l) := hs 1 (by omega)
                    have s2 : xs 2 = (.pointer (some (ad.add (l * 5)))) := hs 2 (by omega)
                    have s3 : xs 3 = (.agg #[.int .u8 kx.f0, .int .i64 kx.f1, .string kx.f2, .slice A3 kx.f3.length c3, .int .i64 kx.f4]) := hs 3 (by omega)
                    have s4 : xs 4 = (.slice (some ⟨gm, 0, none⟩) es.length cm) := hs 4 (by omega)
                    have s5 : xs 5 = (.int .i64 p) := hs 5 (by omega)
                    have s6 : xs 6 = (.pointer (some ⟨gm, p * 5, none⟩)) := hs 6 (by omega)
                    have s7 : xs 7 = (.agg #[.int .u8 e.x.f0, .int .i64 e.x.f1, .string e.x.f2, .slice e.A e.x.f3.length e.c, .int .i64 e.x.f4]) := hs 7 (by omega)
                    have s8 : xs 8 = (.bool false) := hs 8 (by omega)
                    have s9 : xs 9 = (.bool false) := hs 9 (by omega)
                    have s10 : (fun _ _ => True) (xs 10) w1 := hs 10 (by omega)
                    have s11 : (fun _ _ => True) (xs 11) w1 := hs 11 (by omega)
                    have s12 : xs 12 = (.bool false) := hs 12 (by omega)
                    clear hs
                    simp only [putSlots, dstOf, List.getElem?_toArray, List.getElem?_cons_succ, List.getElem?_cons_zero, Option.bind_some, List.setIfInBounds_toArray, List.set_cons_zero, List.set_cons_succ, List.drop_succ_cons, List.drop_zero]
                    rw [s0, s1, s2, s3, s4, s5, s6, s7, s8, s9, s12]
                    clear s0 s1 s2 s3 s4 s5 s6 s7 s8 s9 s12
                    have HX1 := Aside0.mk hx
                    clear hx
                    go_wp2_with fail
                    go_roundg (gk - 1)
                    case measure => have := HLM.out; omega
                    case rel => exact ⟨l + 1, by go_num, by rw [HNX.out, HEQ.out, HMV.out]; simp, ⟨by have := HLM.out; omega⟩, ⟨HQ.out.trans HX1.out (fun _ h => h.elim)⟩⟩
                | true =>
                  have HEQ := Aside0.mk heq
                  clear heq
                  obtain ⟨h0, h1, h2, h3, h4⟩ := HDL.out _ wr HJ.out (fun _ _ h => h)
                  go_wp2_with fail
                  refine (of_yes vx B3 d3 _ (fun k => k < w.heap.size) (ex_F HJ.out HG3.out (fun _ _ h => h)) HMV.out).mono ?_
                  rintro e' wq ⟨m, _, _, rfl, hq⟩
                  obtain ⟨t1, u1, hu1⟩ := m.val_iface
                  rw [hu1]
                  clear hu1
                  have HQ := Aside0.mk (HJ.out.trans hq (fun _ h => h.elim))
                  clear hq h0 h1 h2 h3 h4
                  go_upto_region 29 with (fail)
                  refine region_by 13 [] (specL [Is (.slice (some ad) K.length ca), Is (.int .i64 l), Is (.pointer (some (ad.add (l * 5)))), Is (.agg #[.int .u8 kx.f0, .int .i64 kx.f1, .string kx.f2, .slice A3 kx.f3.length c3, .int .i64 kx.f4]), Is (.slice (some ⟨gm, 0, none⟩) es.length cm), Is (.int .i64 p), Is (.pointer (some ⟨gm, p * 5, none⟩)), Is (.agg #[.int .u8 e.x.f0, .int .i64 e.x.f1, .string e.x.f2, .slice e.A e.x.f3.length e.c, .int .i64 e.x.f4]), Is (.bool true), Is (.bool true), Is (.int .i64 0), Is (.bool true), Is (.bool true)]) (by decide) (by decide) (by kernel_rfl) (by kernel_rfl) (stab_all (stab_cons (stab_is _) (stab_cons (stab_is _) (stab_cons (stab_is _) (stab_cons (stab_is _) (stab_cons (stab_is _) (stab_cons (stab_is _) (stab_cons (stab_is _) (stab_cons (stab_is _) (stab_cons (stab_is _) (stab_cons (stab_is _) (stab_cons (stab_is _) (stab_cons (stab_is _) (stab_cons (stab_is _) (stab_nil))))))))))))))) ?_ ?_ ?_
                  · intro i hi hnl
                    obtain rfl | rfl | rfl | rfl | rfl | rfl | rfl | rfl | rfl | rfl | rfl | rfl | rfl : i = 0 ∨ i = 1 ∨ i = 2 ∨ i = 3 ∨ i = 4 ∨ i = 5 ∨ i = 6 ∨ i = 7 ∨ i = 8 ∨ i = 9 ∨ i = 10 ∨ i = 11 ∨ i = 12 := by omega
                    · intro o ho ρ yl w1 hx hc hf hgl hp hb
                      simp only [List.getElem?_toArray, List.getElem?_cons_succ, List.getElem?_cons_zero, Option.some.injEq] at ho
                      subst ho
                      have hx := ((Ex.refl (fun _ => False) wq).drew).trans hx (fun _ h => h.elim)
                      have b0 := hb 0 (by kernel_rfl)
                      clear hp hb
                      refine wantL rfl ⟨.slice (some ad) K.length ca, w1, ?_, Ex.refl _ _, rfl⟩
                      go_simp
                    · intro o ho ρ yl w1 hx hc hf hgl hp hb
                      simp only [List.getElem?_toArray, List.getElem?_cons_succ, List.getElem?_cons_zero, Option.some.injEq] at ho
                      subst ho
                      have hx := ((Ex.refl (fun _ => False) wq).drew).trans hx (fun _ h => h.elim)
                      have b15 := hb 15 (by kernel_rfl)
                      clear hp hb
                      refine wantL rfl ⟨.int .i64 l, w1, ?_, Ex.refl _ _, rfl⟩
                      go_simp
                    · intro o ho ρ yl w1 hx hc hf hgl hp hb
                      simp only [List.getElem?_toArray, List.getElem?_cons_succ, List.getElem?_cons_zero, Option.some.injEq] at ho
                      subst ho
                      have hx := ((Ex.refl (fun _ => False) wq).drew).trans hx (fun _ h => h.elim)
                      obtain ⟨v0, s0, e0, y0⟩ := hp 0 (by kernel_rfl)
                      have e0 := e0 118 rfl
                      obtain rfl : v0 = (.slice (some ad) K.length ca) := s0
                      clear y0
                      obtain ⟨v1, s1, e1, y1⟩ := hp 1 (by kernel_rfl)
                      have e1 := e1 119 rfl
                      obtain rfl : v1 = (.int .i64 l) := s1
                      clear y1
                      clear hp hb
                      refine wantL rfl ⟨.pointer (some (ad.add (l * 5))), w1, ?_, Ex.refl _ _, rfl⟩
                      go_simp
                    · intro o ho ρ yl w1 hx hc hf hgl hp hb
                      simp only [List.getElem?_toArray, List.getElem?_cons_succ, List.getElem?_cons_zero, Option.some.injEq] at ho
                      subst ho
                      have hx := ((Ex.refl (fun _ => False) wq).drew).trans hx (fun _ h => h.elim)
                      obtain ⟨v2, s2, e2, y2⟩ := hp 2 (by kernel_rfl)
                      have e2 := e2 120 rfl
                      obtain rfl : v2 = (.pointer (some (ad.add (l * 5)))) := s2
                      clear y2
                      clear hp hb
                      obtain ⟨h0, h1, h2, h3, h4⟩ := HCL.out _ w1 (HQ.out.trans hx (fun _ h => h.elim)) (fun _ _ h => h)
                      refine wantL rfl ⟨.agg #[.int .u8 kx.f0, .int .i64 kx.f1, .string kx.f2, .slice A3 kx.f3.length c3, .int .i64 kx.f4], w1, ?_, Ex.refl _ _, rfl⟩
                      go_simp
                    · intro o ho ρ yl w1 hx hc hf hgl hp hb
                      simp only [List.getElem?_toArray, List.getElem?_cons_succ, List.getElem?_cons_zero, Option.some.injEq] at ho
                      subst ho
                      have hx := ((Ex.refl (fun _ => False) wq).drew).trans hx (fun _ h => h.elim)
                      have b6 := hb 6 (by kernel_rfl)
                      clear hp hb
                      refine wantL rfl ⟨.slice (some ⟨gm, 0, none⟩) es.length cm, w1, ?_, Ex.refl _ _, rfl⟩
                      go_simp
                    · intro o ho ρ yl w1 hx hc hf hgl hp hb
                      simp only [List.getElem?_toArray, List.getElem?_cons_succ, List.getElem?_cons_zero, Option.some.injEq] at ho
                      subst ho
                      have hx := ((Ex.refl (fun _ => False) wq).drew).trans hx (fun _ h => h.elim)
                      have b13 := hb 13 (by kernel_rfl)
                      clear hp hb
                      refine wantL rfl ⟨.int .i64 p, w1, ?_, Ex.refl _ _, rfl⟩
                      go_simp
                    · intro o ho ρ yl w1 hx hc hf hgl hp hb
                      simp only [List.getElem?_toArray, List.getElem?_cons_succ, List.getElem?_cons_zero, Option.some.injEq] at ho
                      subst ho
                      have hx := ((Ex.refl (fun _ => False) wq).drew).trans hx (fun _ h => h.elim)
                      obtain ⟨v4, s4, e4, y4⟩ := hp 4 (by kernel_rfl)
                      have e4 := e4 122 rfl
                      obtain rfl : v4 = (.slice (some ⟨gm, 0, none⟩) es.length cm) := s4
                      clear y4
                      obtain ⟨v5, s5, e5, y5⟩ := hp 5 (by kernel_rfl)
                      have e5 := e5 123 rfl
                      obtain rfl : v5 = (.int .i64 p) := s5
                      clear y5
                      clear hp hb
                      refine wantL rfl ⟨.pointer (some ⟨gm, p * 5, none⟩), w1, ?_, Ex.refl _ _, rfl⟩
                      go_simp
                    · intro o ho ρ yl w1 hx hc hf hgl hp hb
                      simp only [List.getElem?_toArray, List.getElem?_cons_succ, List.getElem?_cons_zero, Option.some.injEq] at ho
                      subst ho
                      have hx := ((Ex.refl (fun _ => False) wq).drew).trans hx (fun _ h => h.elim)
                      obtain ⟨v6, s6, e6, y6⟩ := hp 6 (by kernel_rfl)
                      have e6 := e6 124 rfl
                      obtain rfl : v6 = (.pointer (some ⟨gm, p * 5, none⟩)) := s6
                      clear y6
                      clear hp hb
                      have hlg := block_lt_of_cell (HCE.out 0 _ rfl)
                      have h0 : w1.cell? ⟨gm, p * 5, none⟩ = some (.int .u8 e.x.f0) := (((HI.out.trans HQ.out (fun _ h => h.elim)).trans hx (fun _ h => h.elim)).cell hlg (fun h => h) _).trans (HCE.out 0 _ rfl)
                      have h1 : w1.cell? ⟨gm, p * 5 + 1, none⟩ = some (.int .i64 e.x.f1) := (((HI.out.trans HQ.out (fun _ h => h.elim)).trans hx (fun _ h => h.elim)).cell hlg (fun h => h) _).trans (HCE.out 1 _ rfl)
                      have h2 : w1.cell? ⟨gm, p * 5 + 2, none⟩ = some (.string e.x.f2) := (((HI.out.trans HQ.out (fun _ h => h.elim)).trans hx (fun _ h => h.elim)).cell hlg (fun h => h) _).trans (HCE.out 2 _ rfl)
                      have h3 : w1.cell? ⟨gm, p * 5 + 3, none⟩ = some (.slice e.A e.x.f3.length e.c) := (((HI.out.trans HQ.out (fun _ h => h.elim)).trans hx (fun _ h => h.elim)).cell hlg (fun h => h) _).trans (HCE.out 3 _ rfl)
                      have h4 : w1.cell? ⟨gm, p * 5 + 4, none⟩ = some (.int .i64 e.x.f4) := (((HI.out.trans HQ.out (fun _ h => h.elim)).trans hx (fun _ h => h.elim)).cell hlg (fun h => h) _).trans (HCE.out 4 _ rfl)
                      refine wantL rfl ⟨.agg #[.int .u8 e.x.f0, .int .i64 e.x.f1, .string e.x.f2, .slice e.A e.x.f3.length e.c, .int .i64 e.x.f4], w1, ?_, Ex.refl _ _, rfl⟩
                      go_simp
                    · intro o ho ρ yl w1 hx hc hf hgl hp hb
                      simp only [List.getElem?_toArray, List.getElem?_cons_succ, List.getElem?_cons_zero, Option.some.injEq] at ho
                      subst ho
                      have hx := ((Ex.refl (fun _ => False) wq).drew).trans hx (fun _ h => h.elim)
                      obtain ⟨v3, s3, e3, y3⟩ := hp 3 (by kernel_rfl)
                      have e3 := e3 121 rfl
                      obtain rfl : v3 = (.agg #[.int .u8 kx.f0, .int .i64 kx.f1, .string kx.f2, .slice A3 kx.f3.length c3, .int .i64 kx.f4]) := s3
                      clear y3
                      obtain ⟨v7, s7, e7, y7⟩ := hp 7 (by kernel_rfl)
                      have e7 := e7 125 rfl
                      obtain rfl : v7 = (.agg #[.int .u8 e.x.f0, .int .i64 e.x.f1, .string e.x.f2, .slice e.A e.x.f3.length e.c, .int .i64 e.x.f4]) := s7
                      clear y7
                      clear hp hb
                      refine wantR rfl ⟨16, #[.agg #[.int .u8 kx.f0, .int .i64 kx.f1, .string kx.f2, .slice A3 kx.f3.length c3, .int .i64 kx.f4], .agg #[.int .u8 e.x.f0, .int .i64 e.x.f1, .string e.x.f2, .slice e.A e.x.f3.length e.c, .int .i64 e.x.f4]], exec_call' Try.func16 (by kernel_rfl) rfl _ rfl (by simp [e3, e7]) (hf 16), ?_⟩
                      refine (alike_calls kx e.x A3 e.A c3 e.c _ HC3.out.1 (Kd.F_now (ex_F (HQ.out.trans hx (fun _ h => h.elim)) HF3.out (fun _ _ h => h))) HEG.out.le (Kd.F_now (ex_F (HQ.out.trans hx (fun _ h => h.elim)) HEG.out.F (fun _ _ h => h))) HWK.out).mono ?_
                      rintro e' wq ⟨rfl, hq0⟩
                      exact ⟨_, rfl, Ex.of_below hq0, by rw [HEQ.out]; rfl⟩
                    · intro o ho ρ yl w1 hx hc hf hgl hp hb
                      simp only [List.getElem?_toArray, List.getElem?_cons_succ, List.getElem?_cons_zero, Option.some.injEq] at ho
                      subst ho
                      have hx := ((Ex.refl (fun _ => False) wq).drew).trans hx (fun _ h => h.elim)
                      obtain ⟨v8, s8, e8, y8⟩ := hp 8 (by kernel_rfl)
                      have e8 := e8 126 rfl
                      obtain rfl : v8 = (.bool true) := s8
                      clear y8
                      clear hp hb
                      refine wantL rfl ⟨.bool true, w1, ?_, Ex.refl _ _, rfl⟩
                      go_simp
                    · intro o ho ρ yl w1 hx hc hf hgl hp hb
                      simp only [List.getElem?_toArray, List.getElem?_cons_succ, List.getElem?_cons_zero, Option.some.injEq] at ho
                      subst ho
                      have hx := ((Ex.refl (fun _ => False) wq).drew).trans hx (fun _ h => h.elim)
                      obtain ⟨v9, s9, e9, y9⟩ := hp 9 (by kernel_rfl)
                      have e9 := e9 127 rfl
                      obtain rfl : v9 = (.bool true) := s9
                      have y9 := y9 rfl
                      have b17 := hb 17 (by kernel_rfl)
                      clear hp hb
                      refine wantL (by simp [Region.wanted, y9]) ⟨.int .i64 0, w1, ?_, Ex.refl _ _, rfl⟩
                      go_simp
                    · intro o ho ρ yl w1 hx hc hf hgl hp hb
                      simp only [List.getElem?_toArray, List.getElem?_cons_succ, List.getElem?_cons_zero, Option.some.injEq] at ho
                      subst ho
                      have hx := ((Ex.refl (fun _ => False) wq).drew).trans hx (fun _ h => h.elim)
                      obtain ⟨v10, s10, e10, y10⟩ := hp 10 (by kernel_rfl)
                      have e10 := e10 128 rfl
                      obtain rfl : v10 = (.int .i64 0) := s10
                      clear y10
                      obtain ⟨v9, s9, e9, y9⟩ := hp 9 (by kernel_rfl)
                      have e9 := e9 127 rfl
                      obtain rfl : v9 = (.bool true) := s9
                      have y9 := y9 rfl
                      clear hp hb
                      refine wantL (by simp [Region.wanted, y9]) ⟨.bool true, w1, ?_, Ex.refl _ _, rfl⟩
                      go_simp
                    · intro o ho ρ yl w1 hx hc hf hgl hp hb
                      simp only [List.getElem?_toArray, List.getElem?_cons_succ, List.getElem?_cons_zero, Option.some.injEq] at ho
                      subst ho
                      have hx := ((Ex.refl (fun _ => False) wq).drew).trans hx (fun _ h => h.elim)
                      obtain ⟨v9, s9, e9, y9⟩ := hp 9 (by kernel_rfl)
                      have e9 := e9 127 rfl
                      obtain rfl : v9 = (.bool true) := s9
                      clear y9
                      obtain ⟨v11, s11, e11, y11⟩ := hp 11 (by kernel_rfl)
                      have e11 := e11 129 rfl
                      obtain rfl : v11 = (.bool true) := s11
                      clear y11
                      clear hp hb
                      refine wantL rfl ⟨.bool true, w1, ?_, Ex.refl _ _, rfl⟩
                      go_simp
                  · intro i hil
                    exact absurd hil (by simp)
                  · intro xs w1 hx hs KQ hKK
                    have s0 : xs 0 = (.slice (some ad) K.length ca) := hs 0 (by omega)
                    have s1 : xs 1 = (.int .i64 l) := hs 1 (by omega)
                    have s2 : xs 2 = (.pointer (some (ad.add (l * 5)))) := hs 2 (by omega)
                    have s3 : xs 3 = (.agg #[.int .u8 kx.f0, .int .i64 kx.f1, .string kx.f2, .slice A3 kx.f3.length c3, .int .i64 kx.f4]) := hs 3 (by omega)
                    have s4 : xs 4 = (.slice (some ⟨gm, 0, none⟩) es.length cm) := hs 4 (by omega)
                    have s5 : xs 5 = (.int .i64 p) := hs 5 (by omega)
                    have s6 : xs 6 = (.pointer (some ⟨gm, p * 5, none⟩)) := hs 6 (by omega)
                    have s7 : xs 7 = (.agg #[.int .u8 e.x.f0, .int .i64 e.x.f1, .string e.x.f2, .slice e.A e.x.f3.length e.c, .int .i64 e.x.f4]) := hs 7 (by omega)
                    have s8 : xs 8 = (.bool true) := hs 8 (by omega)
                    have s9 : xs 9 = (.bool true) := hs 9 (by omega)
                    have s10 : xs 10 = (.int .i64 0) := hs 10 (by omega)
                    have s11 : xs 11 = (.bool true) := hs 11 (by omega)
                    have s12 : xs 12 = (.bool true) := hs 12 (by omega)
                    clear hs
                    simp only [putSlots, dstOf, List.getElem?_toArray, List.getElem?_cons_succ, List.getElem?_cons_zero, Option.bind_some, List.setIfInBounds_toArray, List.set_cons_zero, List.set_cons_succ, List.drop_succ_cons, List.drop_zero]
                    rw [s0, s1, s2, s3, s4, s5, s6, s7, s8, s9, s10, s11, s12]
                    clear s0 s1 s2 s3 s4 s5 s6 s7 s8 s9 s10 s11 s12
                    have HX1 := Aside0.mk hx
                    clear hx
                    go_wp2_with fail
                    go_roundg (gk - 1)
                    case measure => have := HLM.out; omega
                    case rel => exact ⟨l + 1, by go_num, by rw [HNX.out, HEQ.out, HMV.out]; simp, ⟨by have := HLM.out; omega⟩, ⟨HQ.out.trans HX1.out (fun _ h => h.elim)⟩⟩
            · have hle : l = K.length := by have := HLM.out; omega
              subst hle
              have hll : ¬ (K.length : Int) < (K.length : Int) := by omega
              obtain ⟨l0, hl0, hkx, hvx, hmvx, hlast⟩ := HH.out.puts.last p r HR.out.1
              have hlst := last_of (x := e.x) (by rw [← HR.out.2]; exact hkx) hvx hmvx K.length hl0 (Nat.le_refl _) (by omega) (fun l' v' a b c d => hlast l' v' a b (by rw [HR.out.2]; exact c) d)
              rw [hlst]
              have hl0v : l0 < V.length := by omega
              obtain ⟨bd, B3, d3, hB, hd3, hG3, hdl⟩ := at_S27 HGr.out l0 hl0v
              rw [show rd_T27 V (l0 : Int) = r.v from Option.some.inj ((rd_get hl0v).symm.trans hvx)] at hd3 hG3 hdl
              have HLV := Aside0.mk (show Lens r.v from (wf_may ((may_iff _).1 hmvx).2.2 ((may_iff _).1 hmvx).1).lens)
              have HDL := Aside0.mk hdl
              have HG3 := Aside0.mk hG3
              have HD3 := Aside0.mk hd3
              clear hlst hlast hkx hvx hmvx hdl hG3 hd3
              subst hB
              have hl0a : (l0 : Int) < (V.length : Int) := by omega
              have hl0b : (0 : Int) ≤ (l0 : Int) := by omega
              have hl0n : ((l0 : Int) < 0) = False := by simp
              have hl0100 : l0 < 100 := by omega
              have hlg := block_lt_of_cell (HCE.out 0 _ rfl)
              have h0 : wr.cell? ⟨gm, p * 5, none⟩ = some (.int .u8 e.x.f0) := ((HI.out.trans HJ.out (fun _ h => h.elim)).cell hlg (fun h => h) _).trans (HCE.out 0 _ rfl)
              have h1 : wr.cell? ⟨gm, p * 5 + 1, none⟩ = some (.int .i64 e.x.f1) := ((HI.out.trans HJ.out (fun _ h => h.elim)).cell hlg (fun h => h) _).trans (HCE.out 1 _ rfl)
              have h2 : wr.cell? ⟨gm, p * 5 + 2, none⟩ = some (.string e.x.f2) := ((HI.out.trans HJ.out (fun _ h => h.elim)).cell hlg (fun h => h) _).trans (HCE.out 2 _ rfl)
              have h3 : wr.cell? ⟨gm, p * 5 + 3, none⟩ = some (.slice e.A e.x.f3.length e.c) := ((HI.out.trans HJ.out (fun _ h => h.elim)).cell hlg (fun h => h) _).trans (HCE.out 3 _ rfl)
              have h4 : wr.cell? ⟨gm, p * 5 + 4, none⟩ = some (.int .i64 e.x.f4) := ((HI.out.trans HJ.out (fun _ h => h.elim)).cell hlg (fun h => h) _).trans (HCE.out 4 _ rfl)
              clear hlg
              go_wp2_with fail
              refine (get_is e.x e.A e.c (w.heap.size + 2) w.heap.size (w.heap.size + 1) T _ rows came _ ((HH.out.tab.ex0 HI.out).ex0 HJ.out) (ex_F HJ.out HEG.out.F (fun _ _ h => h)) HR.out.1 HR.out.2).mono ?_
              rintro e' wq ⟨A9, c9, rfl, hc9, hR9, hq⟩
              have HQ := Aside0.mk (HJ.out.trans hq (fun _ h => h.elim))
              have HR9 := Aside0.mk (And.intro hc9 (R_F hR9))
              clear hq hc9 hR9 h0 h1 h2 h3 h4
              go_upto_region 32 with (fail)
              refine region_by 19 [] (specL [Is (.int .i64 0), Is (.bool false), Is (.bool false), Is (.bool true), Is (.bool false), Is (.bool false), Is (.bool false), Is (.int .i64 l0), Is (.bool false), Is (.bool false), Is (.bool false), Is (.agg #[.int .u8 r.v.f0, .int .i64 r.v.f1, .string r.v.f2, .slice A9 r.v.f3.length c9, .int .i64 r.v.f4]), Is (.slice (some bd) V.length cb), Is (.int .i64 l0), Is (.pointer (some (bd.add (l0 * 5)))), Is (.agg #[.int .u8 r.v.f0, .int .i64 r.v.f1, .string r.v.f2, .slice B3 r.v.f3.length d3, .int .i64 r.v.f4]), Is (.bool true), Is (.bool false), Is (.bool false)]) (by decide) (by decide) (by kernel_rfl) (by kernel_rfl) (stab_all (stab_cons (stab_is _) (stab_cons (stab_is _) (stab_cons (stab_is _) (stab_cons (stab_is _) (stab_cons (stab_is _) (stab_cons (stab_is _) (stab_cons (stab_is _) (stab_cons (stab_is _) (stab_cons (stab_is _) (stab_cons (stab_is _) (stab_cons (stab_is _) (stab_cons (stab_is _) (stab_cons (stab_is _) (stab_cons (stab_is _) (stab_cons (stab_is _) (stab_cons (stab_is _) (stab_cons (stab_is _) (stab_cons (stab_is _) (stab_cons (stab_is _) (stab_nil))))))))))))))))))))) ?_ ?_ ?_
              · intro i hi hnl
                obtain rfl | rfl | rfl | rfl | rfl | rfl | rfl | rfl | rfl | rfl | rfl | rfl | rfl | rfl | rfl | rfl | rfl | rfl | rfl : i = 0 ∨ i = 1 ∨ i = 2 ∨ i = 3 ∨ i = 4 ∨ i = 5 ∨ i = 6 ∨ i = 7 ∨ i = 8 ∨ i = 9 ∨ i = 10 ∨ i = 11 ∨ i = 12 ∨ i = 13 ∨ i = 14 ∨ i = 15 ∨ i = 16 ∨ i = 17 ∨ i = 18 := by omega
                · intro o ho ρ yl w1 hx hc hf hgl hp hb
                  simp only [List.getElem?_toArray, List.getElem?_cons_succ, List.getElem?_cons_zero, Option.some.injEq] at ho
                  subst ho
                  have hx := ((Ex.refl (fun _ => False) _).drew).trans hx (fun _ h => h.elim)
                  have b20 := hb 20 (by kernel_rfl)
                  clear hp hb
                  refine wantL rfl ⟨.int .i64 0, w1, ?_, Ex.refl _ _, rfl⟩
                  go_simp
                · intro o ho ρ yl w1 hx hc hf hgl hp hb
                  simp only [List.getElem?_toArray, List.getElem?_cons_succ, List.getElem?_cons_zero, Option.some.injEq] at ho
                  subst ho
                  have hx := ((Ex.refl (fun _ => False) _).drew).trans hx (fun _ h => h.elim)
                  obtain ⟨v0, s0, e0, y0⟩ := hp 0 (by kernel_rfl)
                  have e0 := e0 142 rfl
                  obtain rfl : v0 = (.int .i64 0) := s0
                  clear y0
                  clear hp hb
                  refine wantL rfl ⟨.bool false, w1, ?_, Ex.refl _ _, rfl⟩
                  go_simp
                · intro o ho ρ yl w1 hx hc hf hgl hp hb
                  simp only [List.getElem?_toArray, List.getElem?_cons_succ, List.getElem?_cons_zero, Option.some.injEq] at ho
                  subst ho
                  have hx := ((Ex.refl (fun _ => False) _).drew).trans hx (fun _ h => h.elim)
                  obtain ⟨v1, s1, e1, y1⟩ := hp 1 (by kernel_rfl)
                  have e1 := e1 143 rfl
                  obtain rfl : v1 = (.bool false) := s1
                  clear y1
                  clear hp hb
                  refine wantL rfl ⟨.bool false, w1, ?_, Ex.refl _ _, rfl⟩
                  go_simp
                · intro o ho ρ yl w1 hx hc hf hgl hp hb
                  simp only [List.getElem?_toArray, List.getElem?_cons_succ, List.getElem?_cons_zero, Option.some.injEq] at ho
                  subst ho
                  have hx := ((Ex.refl (fun _ => False) _).drew).trans hx (fun _ h => h.elim)
                  obtain ⟨v2, s2, e2, y2⟩ := hp 2 (by kernel_rfl)
                  have e2 := e2 144 rfl
                  obtain rfl : v2 = (.bool false) := s2
                  have y2 := y2 rfl
                  have b19 := hb 19 (by kernel_rfl)
                  clear hp hb
                  refine wantL (by simp [Region.wanted, y2]) ⟨.bool true, w1, ?_, Ex.refl _ _, rfl⟩
                  go_simp
                · intro o ho ρ yl w1 hx hc hf hgl hp hb
                  simp only [List.getElem?_toArray, List.getElem?_cons_succ, List.getElem?_cons_zero, Option.some.injEq] at ho
                  subst ho
                  have hx := ((Ex.refl (fun _ => False) _).drew).trans hx (fun _ h => h.elim)
                  obtain ⟨v3, s3, e3, y3⟩ := hp 3 (by kernel_rfl)
                  have e3 := e3 145 rfl
                  obtain rfl : v3 = (.bool true) := s3
                  clear y3
                  obtain ⟨v2, s2, e2, y2⟩ := hp 2 (by kernel_rfl)
                  have e2 := e2 144 rfl
                  obtain rfl : v2 = (.bool false) := s2
                  have y2 := y2 rfl
                  clear hp hb
                  refine wantL (by simp [Region.wanted, y2]) ⟨.bool false, w1, ?_, Ex.refl _ _, rfl⟩
                  go_simp
                · intro o ho ρ yl w1 hx hc hf hgl hp hb
                  simp only [List.getElem?_toArray, List.getElem?_cons_succ, List.getElem?_cons_zero, Option.some.injEq] at ho
                  subst ho
                  have hx := ((Ex.refl (fun _ => False) _).drew).trans hx (fun _ h => h.elim)
                  obtain ⟨v2, s2, e2, y2⟩ := hp 2 (by kernel_rfl)
                  have e2 := e2 144 rfl
                  obtain rfl : v2 = (.bool false) := s2
                  clear y2
                  obtain ⟨v4, s4, e4, y4⟩ := hp 4 (by kernel_rfl)
                  have e4 := e4 146 rfl
                  obtain rfl : v4 = (.bool false) := s4
                  clear y4
                  clear hp hb
                  refine wantL rfl ⟨.bool false, w1, ?_, Ex.refl _ _, rfl⟩
                  go_simp
                · intro o ho ρ yl w1 hx hc hf hgl hp hb
                  simp only [List.getElem?_toArray, List.getElem?_cons_succ, List.getElem?_cons_zero, Option.some.injEq] at ho
                  subst ho
                  have hx := ((Ex.refl (fun _ => False) _).drew).trans hx (fun _ h => h.elim)
                  obtain ⟨v5, s5, e5, y5⟩ := hp 5 (by kernel_rfl)
                  have e5 := e5 147 rfl
                  obtain rfl : v5 = (.bool false) := s5
                  clear y5
                  obtain ⟨v2, s2, e2, y2⟩ := hp 2 (by kernel_rfl)
                  have e2 := e2 144 rfl
                  obtain rfl : v2 = (.bool false) := s2
                  clear y2
                  clear hp hb
                  refine wantL rfl ⟨.bool false, w1, ?_, Ex.refl _ _, rfl⟩
                  go_simp
                · intro o ho ρ yl w1 hx hc hf hgl hp hb
                  simp only [List.getElem?_toArray, List.getElem?_cons_succ, List.getElem?_cons_zero, Option.some.injEq] at ho
                  subst ho
                  have hx := ((Ex.refl (fun _ => False) _).drew).trans hx (fun _ h => h.elim)
                  obtain ⟨v6, s6, e6, y6⟩ := hp 6 (by kernel_rfl)
                  have e6 := e6 148 rfl
                  obtain rfl : v6 = (.bool false) := s6
                  have y6 := y6 rfl
                  have b14 := hb 14 (by kernel_rfl)
                  clear hp hb
                  refine wantL (by simp [Region.wanted, y6]) ⟨.int .i64 l0, w1, ?_, Ex.refl _ _, rfl⟩
                  go_simp
                · intro o ho ρ yl w1 hx hc hf hgl hp hb
                  simp only [List.getElem?_toArray, List.getElem?_cons_succ, List.getElem?_cons_zero, Option.some.injEq] at ho
                  subst ho
                  have hx := ((Ex.refl (fun _ => False) _).drew).trans hx (fun _ h => h.elim)
                  obtain ⟨v7, s7, e7, y7⟩ := hp 7 (by kernel_rfl)
                  have e7 := e7 149 rfl
                  obtain rfl : v7 = (.int .i64 l0) := s7
                  clear y7
                  obtain ⟨v6, s6, e6, y6⟩ := hp 6 (by kernel_rfl)
                  have e6 := e6 148 rfl
                  obtain rfl : v6 = (.bool false) := s6
                  have y6 := y6 rfl
                  clear hp hb
                  refine wantL (by simp [Region.wanted, y6]) ⟨.bool false, w1, ?_, Ex.refl _ _, rfl⟩
                  go_simp
                · intro o ho ρ yl w1 hx hc hf hgl hp hb
                  simp only [List.getElem?_toArray, List.getElem?_cons_succ, List.getElem?_cons_zero, Option.some.injEq] at ho
                  subst ho
                  have hx := ((Ex.refl (fun _ => False) _).drew).trans hx (fun _ h => h.elim)
                  obtain ⟨v6, s6, e6, y6⟩ := hp 6 (by kernel_rfl)
                  have e6 := e6 148 rfl
                  obtain rfl : v6 = (.bool false) := s6
                  clear y6
                  obtain ⟨v8, s8, e8, y8⟩ := hp 8 (by kernel_rfl)
                  have e8 := e8 150 rfl
                  obtain rfl : v8 = (.bool false) := s8
                  clear y8
                  clear hp hb
                  refine wantL rfl ⟨.bool false, w1, ?_, Ex.refl _ _, rfl⟩
                  go_simp
                · intro o ho ρ yl w1 hx hc hf hgl hp hb
                  simp only [List.getElem?_toArray, List.getElem?_cons_succ, List.getElem?_cons_zero, Option.some.injEq] at ho
                  subst ho
                  have hx := ((Ex.refl (fun _ => False) _).drew).trans hx (fun _ h => h.elim)
                  obtain ⟨v9, s9, e9, y9⟩ := hp 9 (by kernel_rfl)
                  have e9 := e9 151 rfl
                  obtain rfl : v9 = (.bool false) := s9
                  clear y9
                  obtain ⟨v6, s6, e6, y6⟩ := hp 6 (by kernel_rfl)
                  have e6 := e6 148 rfl
                  obtain rfl : v6 = (.bool false) := s6
                  clear y6
                  clear hp hb
                  refine wantL rfl ⟨.bool false, w1, ?_, Ex.refl _ _, rfl⟩
                  go_simp
                · intro o ho ρ yl w1 hx hc hf hgl hp hb
                  simp only [List.getElem?_toArray, List.getElem?_cons_succ, List.getElem?_cons_zero, Option.some.injEq] at ho
                  subst ho
                  have hx := ((Ex.refl (fun _ => False) _).drew).trans hx (fun _ h => h.elim)
                  obtain ⟨v10, s10, e10, y10⟩ := hp 10 (by kernel_rfl)
                  have e10 := e10 152 rfl
                  obtain rfl : v10 = (.bool false) := s10
                  have y10 := y10 rfl
                  have b18 := hb 18 (by kernel_rfl)
                  clear hp hb
                  have hb18 := hx.blk (blk_new1 wq _) (fun h => h)
                  have h0 := (blk_cell hb18 0).trans rfl
                  have h1 := (blk_cell hb18 1).trans rfl
                  have h2 := (blk_cell hb18 2).trans rfl
                  have h3 := (blk_cell hb18 3).trans rfl
                  have h4 := (blk_cell hb18 4).trans rfl
                  refine wantL (by simp [Region.wanted, y10]) ⟨.agg #[.int .u8 r.v.f0, .int .i64 r.v.f1, .string r.v.f2, .slice A9 r.v.f3.length c9, .int .i64 r.v.f4], w1, ?_, Ex.refl _ _, rfl⟩
                  go_simp
                · intro o ho ρ yl w1 hx hc hf hgl hp hb
                  simp only [List.getElem?_toArray, List.getElem?_cons_succ, List.getElem?_cons_zero, Option.some.injEq] at ho
                  subst ho
                  have hx := ((Ex.refl (fun _ => False) _).drew).trans hx (fun _ h => h.elim)
                  obtain ⟨v10, s10, e10, y10⟩ := hp 10 (by kernel_rfl)
                  have e10 := e10 152 rfl
                  obtain rfl : v10 = (.bool false) := s10
                  have y10 := y10 rfl
                  have b1 := hb 1 (by kernel_rfl)
                  clear hp hb
                  refine wantL (by simp [Region.wanted, y10]) ⟨.slice (some bd) V.length cb, w1, ?_, Ex.refl _ _, rfl⟩
                  go_simp
                · intro o ho ρ yl w1 hx hc hf hgl hp hb
                  simp only [List.getElem?_toArray, List.getElem?_cons_succ, List.getElem?_cons_zero, Option.some.injEq] at ho
                  subst ho
                  have hx := ((Ex.refl (fun _ => False) _).drew).trans hx (fun _ h => h.elim)
                  obtain ⟨v10, s10, e10, y10⟩ := hp 10 (by kernel_rfl)
                  have e10 := e10 152 rfl
                  obtain rfl : v10 = (.bool false) := s10
                  have y10 := y10 rfl
                  have b14 := hb 14 (by kernel_rfl)
                  clear hp hb
                  refine wantL (by simp [Region.wanted, y10]) ⟨.int .i64 l0, w1, ?_, Ex.refl _ _, rfl⟩
                  go_simp
                · intro o ho ρ yl w1 hx hc hf hgl hp hb
                  simp only [List.getElem?_toArray, List.getElem?_cons_succ, List.getElem?_cons_zero, Option.some.injEq] at ho
                  subst ho
                  have hx := ((Ex.refl (fun _ => False) _).drew).trans hx (fun _ h => h.elim)
                  obtain ⟨v12, s12, e12, y12⟩ := hp 12 (by kernel_rfl)
                  have e12 := e12 154 rfl
                  obtain rfl : v12 = (.slice (some bd) V.length cb) := s12
                  clear y12
                  obtain ⟨v13, s13, e13, y13⟩ := hp 13 (by kernel_rfl)
                  have e13 := e13 155 rfl
                  obtain rfl : v13 = (.int .i64 l0) := s13
                  clear y13
                  obtain ⟨v10, s10, e10, y10⟩ := hp 10 (by kernel_rfl)
                  have e10 := e10 152 rfl
                  obtain rfl : v10 = (.bool false) := s10
                  have y10 := y10 rfl
                  clear hp hb
                  refine wantL (by simp [Region.wanted, y10]) ⟨.pointer (some (bd.add (l0 * 5))), w1, ?_, Ex.refl _ _, rfl⟩
                  go_simp
                · intro o ho ρ yl w1 hx hc hf hgl hp hb
                  simp only [List.getElem?_toArray, List.getElem?_cons_succ, List.getElem?_cons_zero, Option.some.injEq] at ho
                  subst ho
                  have hx := ((Ex.refl (fun _ => False) _).drew).trans hx (fun _ h => h.elim)
                  obtain ⟨v14, s14, e14, y14⟩ := hp 14 (by kernel_rfl)
                  have e14 := e14 156 rfl
                  obtain rfl : v14 = (.pointer (some (bd.add (l0 * 5)))) := s14
                  clear y14
                  obtain ⟨v10, s10, e10, y10⟩ := hp 10 (by kernel_rfl)
                  have e10 := e10 152 rfl
                  obtain rfl : v10 = (.bool false) := s10
                  have y10 := y10 rfl
                  clear hp hb
                  obtain ⟨h0, h1, h2, h3, h4⟩ := HDL.out _ w1 ((HQ.out.trans (Ex.alloc (Ex.refl (fun _ => False) wq) _) (fun _ h => h.elim)).trans hx (fun _ h => h.elim)) (fun _ _ h => h)
                  refine wantL (by simp [Region.wanted, y10]) ⟨.agg #[.int .u8 r.v.f0, .int .i64 r.v.f1, .string r.v.f2, .slice B3 r.v.f3.length d3, .int .i64 r.v.f4], w1, ?_, Ex.refl _ _, rfl⟩
                  go_simp
                · intro o ho ρ yl w1 hx hc hf hgl hp hb
                  simp only [List.getElem?_toArray, List.getElem?_cons_succ, List.getElem?_cons_zero, Option.some.injEq] at ho
                  subst ho
                  have hx := ((Ex.refl (fun _ => False) _).drew).trans hx (fun _ h => h.elim)
                  obtain ⟨v11, s11, e11, y11⟩ := hp 11 (by kernel_rfl)
                  have e11 := e11 153 rfl
                  obtain rfl : v11 = (.agg #[.int .u8 r.v.f0, .int .i64 r.v.f1, .string r.v.f2, .slice A9 r.v.f3.length c9, .int .i64 r.v.f4]) := s11
                  clear y11
                  obtain ⟨v15, s15, e15, y15⟩ := hp 15 (by kernel_rfl)
                  have e15 := e15 157 rfl
                  obtain rfl : v15 = (.agg #[.int .u8 r.v.f0, .int .i64 r.v.f1, .string r.v.f2, .slice B3 r.v.f3.length d3, .int .i64 r.v.f4]) := s15
                  clear y15
                  obtain ⟨v10, s10, e10, y10⟩ := hp 10 (by kernel_rfl)
                  have e10 := e10 152 rfl
                  obtain rfl : v10 = (.bool false) := s10
                  have y10 := y10 rfl
                  clear hp hb
                  refine wantR (by simp [Region.wanted, y10]) ⟨16, #[.agg #[.int .u8 r.v.f0, .int .i64 r.v.f1, .string r.v.f2, .slice A9 r.v.f3.length c9, .int .i64 r.v.f4], .agg #[.int .u8 r.v.f0, .int .i64 r.v.f1, .string r.v.f2, .slice B3 r.v.f3.length d3, .int .i64 r.v.f4]], exec_call' Try.func16 (by kernel_rfl) rfl _ rfl (by simp [e11, e15]) (hf 16), ?_⟩
                  refine (alike_calls r.v r.v A9 B3 c9 d3 _ HR9.out.1 (Kd.F_now (ex_F ((Ex.alloc (Ex.refl (fun _ => False) wq) _).trans hx (fun _ h => h.elim)) HR9.out.2 (fun _ _ h => h))) HD3.out (Kd.F_now (ex_F ((HQ.out.trans (Ex.alloc (Ex.refl (fun _ => False) wq) _) (fun _ h => h.elim)).trans hx (fun _ h => h.elim)) HG3.out (fun _ _ h => h))) HLV.out).mono ?_
                  rintro e' wq ⟨rfl, hq0⟩
                  exact ⟨_, rfl, Ex.of_below hq0, by rw [eqV_iff.2 rfl]; rfl⟩
                · intro o ho ρ yl w1 hx hc hf hgl hp hb
                  simp only [List.getElem?_toArray, List.getElem?_cons_succ, List.getElem?_cons_zero, Option.some.injEq] at ho
                  subst ho
                  have hx := ((Ex.refl (fun _ => False) _).drew).trans hx (fun _ h => h.elim)
                  obtain ⟨v16, s16, e16, y16⟩ := hp 16 (by kernel_rfl)
                  have e16 := e16 158 rfl
                  obtain rfl : v16 = (.bool true) := s16
                  clear y16
                  obtain ⟨v10, s10, e10, y10⟩ := hp 10 (by kernel_rfl)
                  have e10 := e10 152 rfl
                  obtain rfl : v10 = (.bool false) := s10
                  have y10 := y10 rfl
                  clear hp hb
                  refine wantL (by simp [Region.wanted, y10]) ⟨.bool false, w1, ?_, Ex.refl _ _, rfl⟩
                  go_simp
                · intro o ho ρ yl w1 hx hc hf hgl hp hb
                  simp only [List.getElem?_toArray, List.getElem?_cons_succ, List.getElem?_cons_zero, Option.some.injEq] at ho
                  subst ho
                  have hx := ((Ex.refl (fun _ => False) _).drew).trans hx (fun _ h => h.elim)
                  obtain ⟨v10, s10, e10, y10⟩ := hp 10 (by kernel_rfl)
                  have e10 := e10 152 rfl
                  obtain rfl : v10 = (.bool false) := s10
                  clear y10
                  obtain ⟨v17, s17, e17, y17⟩ := hp 17 (by kernel_rfl)
                  have e17 := e17 159 rfl
                  obtain rfl : v17 = (.bool false) := s17
                  clear y17
                  clear hp hb
                  refine wantL rfl ⟨.bool false, w1, ?_, Ex.refl _ _, rfl⟩
                  go_simp
              · intro i hil
                exact absurd hil (by simp)
              · intro xs w1 hx hs KQ hKK
                have s0 : xs 0 = (.int .i64 0) := hs 0 (by omega)
                have s1 : xs 1 = (.bool false) := hs 1 (by omega)
                have s2 : xs 2 = (.bool false) := hs 2 (by omega)
                have s3 : xs 3 = (.bool true) := hs 3 (by omega)
                have s4 : xs 4 = (.bool false) := hs 4 (by omega)
                have s5 : xs 5 = (.bool false) := hs 5 (by omega)
                have s6 : xs 6 = (.bool false) := hs 6 (by omega)
                have s7 : xs 7 = (.int .i64 l0) := hs 7 (by omega)
                have s8 : xs 8 = (.bool false) := hs 8 (by omega)
                have s9 : xs 9 = (.bool false) := hs 9 (by omega)
                have s10 : xs 10 = (.bool false) := hs 10 (by omega)
                have s11 : xs 11 = (.agg #[.int .u8 r.v.f0, .int .i64 r.v.f1, .string r.v.f2, .slice A9 r.v.f3.length c9, .int .i64 r.v.f4]) := hs 11 (by omega)
                have s12 : xs 12 = (.slice (some bd) V.length cb) := hs 12 (by omega)
                have s13 : xs 13 = (.int .i64 l0) := hs 13 (by omega)
                have s14 : xs 14 = (.pointer (some (bd.add (l0 * 5)))) := hs 14 (by omega)
                have s15 : xs 15 = (.agg #[.int .u8 r.v.f0, .int .i64 r.v.f1, .string r.v.f2, .slice B3 r.v.f3.length d3, .int .i64 r.v.f4]) := hs 15 (by omega)
                have s16 : xs 16 = (.bool true) := hs 16 (by omega)
                have s17 : xs 17 = (.bool false) := hs 17 (by omega)
                have s18 : xs 18 = (.bool false) := hs 18 (by omega)
                clear hs
                simp only [putSlots, dstOf, List.getElem?_toArray, List.getElem?_cons_succ, List.getElem?_cons_zero, Option.bind_some, List.setIfInBounds_toArray, List.set_cons_zero, List.set_cons_succ, List.drop_succ_cons, List.drop_zero]
                rw [s0, s1, s2, s3, s4, s5, s6, s7, s8, s9, s10, s11, s12, s13, s14, s15, s16, s17, s18]
                clear s0 s1 s2 s3 s4 s5 s6 s7 s8 s9 s10 s11 s12 s13 s14 s15 s16 s17 s18
                have HX1 := Aside0.mk ((HQ.out.trans (Ex.alloc (Ex.refl (fun _ => False) wq) _) (fun _ h => h.elim)).trans hx (fun _ h => h.elim))
                clear hx
                go_wp2_with fail
                go_roundg (gkp - 1)
                case measure => have := HPM.out; omega
                case rel => exact ⟨p + 1, by go_num, ⟨by have := HPM.out; omega⟩, ⟨HI.out.trans HX1.out (fun _ h => h.elim)⟩⟩
        · have hpe : p = es.length := by have := HPM.out; omega
          subst hpe
          have hpp : ¬ (es.length : Int) < (es.length : Int) := by omega
          go_wp2_with fail
          refine (lives_calls _).mono ?_
          rintro e w9 ⟨rfl, hx⟩
          have HX := Aside0.mk ((HH.out.grown.trans HI.out (fun _ h => h.elim)).trans hx (fun _ h => h.elim))
          clear hx
          go_wp2
          go_ret
          exact ⟨rfl, HX.out⟩
end Go.Proofs.Ythkemcekcfccpaa.PBrandCompares
