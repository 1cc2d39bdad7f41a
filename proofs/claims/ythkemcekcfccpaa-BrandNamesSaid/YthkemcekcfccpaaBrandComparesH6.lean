/- The Go function 'mark' of package brand at a list that is no pair; the whole contract. -/
import Derived.Test.YthkemcekcfccpaaBrandComparesH5
import Derived.Deep.RegionLaw
import Derived.Test.YthkemcekcfccpaaBrandComparesE2
namespace Go.Proofs.Ythkemcekcfccpaa.PBrandCompares
open Go.RowKit Go.Proofs.YthkemcekcfccpaaW.PrintWords Go.Proofs.YthkemcekcfccpaaW.PrintLast Go.Proofs.YthkemcekcfccpaaW.PrintMore
open Go.Proofs.Ythkemcekcfccpaa.GBrandCompares
set_option linter.unusedVariables false
set_option linter.unusedSimpArgs false

theorem info45 : (Try.prog.info? 45).map (fun i => (i.zero, i.size, i.bytes)) = some (some .nilIface, 1, 16) := by kernel_rfl

set_option maxRecDepth 100000 in
set_option maxHeartbeats 2000000 in
theorem mark_row (n : Nat) (x : S27) (A : Option Addr) (c : Nat) (w : World) (ok : Nat → Prop) (hk : x.f0 = 3) (hl : x.f3.length ≠ 2) (hl2 : x.f3.length ≤ 511) (hF : Kd.F k27 w ok A x.f3.length x.f3)
    (ih : ∀ y ∈ x.f3, ∀ (A : Option Addr) (c : Nat) (w : World), Kd.F k27 w ok A y.f3.length y.f3 → SPEC n y w A c) : SPEC (n + 1) x w A c := by
  have HK := Aside0.mk (And.intro hk hl)
  have hl0 : ((x.f3.length : Int) == 2) = false := by simp; omega
  have HF := Aside0.mk hF
  have IH := Aside0.mk ih
  obtain ⟨i0, hi, hz0, hz1, hz2⟩ := info_parts info45
  have HI := Aside0.mk (And.intro hi (And.intro hz0 (And.intro hz1 hz2)))
  clear hl hF ih hi hz0 hz1 hz2
  unfold SPEC
  rw [hk]
  clear hk
  go_enter Try.func41, Try.ntmps41
  go_wp2
  go_loopg [44] x.f3.length (fun m v wr => ∃ (k : Nat) (vs : Value) (xs : List Value), v = .int .i64 k ∧ Aside0 (k + m = x.f3.length) ∧ Aside0 (Ex (fun _ => False) w wr) ∧
    Aside0 (wr.heap[w.heap.size + 1]? = some (.cells #[vs] 103 (0, 0))) ∧ Aside0 (wr.ownsRow w.heap.size 45 1 vs k xs))
  case atStart =>
    exact ⟨0, .slice none 0 0, [], rfl, ⟨by omega⟩, ⟨((Ex.refl _ _).alloc _).alloc _⟩, ⟨blk_new2 _ _ _⟩, ⟨by simp [World.ownsRow]⟩⟩
  case round =>
    obtain ⟨k, vs, xs, rfl, HM, HX, HB, HO⟩ := hrel
    by_cases hk : k < x.f3.length
    · have hF2 := ex_F HX.out HF.out (fun _ _ h => h)
      obtain ⟨ad, A3, c3, rfl, e0, e1, e2, e3, e4, hc3, hF3⟩ := at_F27 hF2 k hk
      have HF3 := Aside0.mk hF3
      clear hF2 hF3
      have hb0 : wr.cell? ⟨w.heap.size + 1, 0, none⟩ = some vs := (blk_cell HB.out 0).trans rfl
      have hbf := blk_frozen HB.out 0
      have hbl := lt_of_blk HB.out
      have hkk : (k : Int) < (x.f3.length : Int) := by omega
      have hkb : (k : Int) < 511 := by omega
      go_wp2
      go_region_law (first
        | (refine goes_ Try.func41 (by kernel_rfl) rfl #[.agg #[.int .u8 (rd_T27 x.f3 k).f0, .int .i64 (rd_T27 x.f3 k).f1, .string (rd_T27 x.f3 k).f2, .slice A3 (rd_T27 x.f3 k).f3.length c3, .int .i64 (rd_T27 x.f3 k).f4]] (by rfl) rfl rfl (by (try simp only [List.map_toArray, List.map_cons, List.map_nil]); first | done | rfl) ?_; refine (IH.out (rd_T27 x.f3 k) (rd_mem hk) A3 c3 _ ?_).mono ?_; (first | exact Kd.F_drew (Kd.F_alloc HF3.out _) | exact Kd.F_alloc HF3.out _); rintro e w1 ⟨m, h1, h2, rfl, h4⟩; obtain ⟨t1, u1, hu1⟩ := m.val_iface; refine ⟨_, rfl, ?_⟩; rw [hu1]; clear hu1 h1 h2; have HX1 := Aside0.mk h4; clear h4; have HB1 := Aside0.mk (HX1.out.blk (b := w.heap.size + 1) (blk_drew (blk_alloc HB.out _)) (fun h => h)); have hb1 := (blk_cell HB1.out 0).trans rfl; have hf1 := blk_frozen HB1.out 0; have hl1 := lt_of_blk HB1.out)
        | (refine step_push (by rfl) (.tmp 49) (.tmp 52) 101 (by rfl) w.heap.size 45 i0 .nilIface 16 Try.underlying101 HI.out.1 HI.out.2.1 HI.out.2.2.1 HI.out.2.2.2 (by rfl) vs (.iface t1 u1) 45 k xs (by rfl) (by rfl) (mine_ex0 (mine_ex0 HO.out (((Ex.refl _ _).alloc _).drew)) HX1.out) rfl (by simp [maxLen]; omega) (by omega) (by have := HX.out.size; have := HX1.out.size; simp at this; omega) ?_; intro v' w2 ho2 hx2; obtain ⟨g, cap, rfl, hg1, hg2, hg3⟩ := mine_form ho2; have HB2 := Aside0.mk (hx2.blk (blk_alloc HB1.out _) (mine_ne HO.out HB.out (by decide))); have HO2 := Aside0.mk ho2; have HX2 := Aside0.mk hx2; clear ho2 hx2; have hb2 := (blk_cell HB2.out 0).trans rfl; have hf2 := blk_frozen HB2.out 0; have hl2 := lt_of_blk HB2.out))
      all_goals
        clear hb1 hf1 hl1 hb2 hf2 hl2
        have HX3 := Aside0.mk (((((HX.out.alloc _).drew).trans HX1.out (fun _ h => h.elim)).alloc _).trans HX2.out (fun b hb => .inr (mine_base HO.out hb)))
        have HN3 := Aside0.mk (mine_ne HO2.out HB2.out (by decide))
        go_wp2
        go_roundg (gk - 1)
        case measure => have := HM.out; omega
        case rel =>
          exact ⟨k + 1, _, _, by go_num, ⟨by have := HM.out; omega⟩, ⟨HX3.out.set (p := ⟨w.heap.size + 1, 0, none⟩) (.inr (Nat.le_succ _)) _⟩, ⟨blk_put HB2.out 0 _ rfl⟩,
            ⟨mine_ex HO2.out ((Ex.refl (fun b => b = w.heap.size + 1) _).set (p := ⟨w.heap.size + 1, 0, none⟩) (.inl rfl) _) (fun b hb => by rw [hb]; exact HN3.out)⟩⟩
    · have hb0 : wr.cell? ⟨w.heap.size + 1, 0, none⟩ = some vs := (blk_cell HB.out 0).trans rfl
      have hkk : ¬ (k : Int) < (x.f3.length : Int) := by omega
      go_wp2
      go_ret
      exact marked_mk (.row vs) HK.out (Nat.zero_le _) rfl HX.out

end Go.Proofs.Ythkemcekcfccpaa.PBrandCompares
