/- The Go methods 'take', 'measure' and 'May' of package value come to what takeV, measureV and mayV say. -/
import Derived.Test.YthkemcekcfccpaaBrandComparesE1
import Derived.Test.YthkemcekcfccpaaBrandComparesH1
namespace Go.Proofs.Ythkemcekcfccpaa.PBrandCompares
open Go.RowKit Go.Proofs.YthkemcekcfccpaaW.PrintWords Go.Proofs.YthkemcekcfccpaaW.PrintLast Go.Proofs.YthkemcekcfccpaaW.PrintMore
open Go.Proofs.Ythkemcekcfccpaa.GBrandCompares
set_option linter.unusedVariables false
set_option linter.unusedSimpArgs false

theorem toList_nil (s : ByteArray) : s.toList = [] ↔ s.size = 0 := by
  rw [ByteArray.toList_eq]
  obtain ⟨⟨l⟩⟩ := s
  cases l <;> simp [ByteArray.size]

theorem dec_nil (l : List S27) : decide (l = []) = ((l.length : Int) == 0) := by cases l <;> simp <;> omega

theorem takeV_0 {x : S27} {p d : Int} (hp : ¬ p = 0) (hk : x.f0 = 0) : takeV x p d = (decide (x.f1 = 0 ∧ x.f2.size = 0 ∧ x.f4 = 0 ∧ x.f3.length = 0), p - 1, d) := by
  cases x; simp only at hk; simp [takeV, hp, hk]; try rfl
theorem takeV_1 {x : S27} {p d : Int} (hp : ¬ p = 0) (hk : x.f0 = 1) : takeV x p d = (decide (x.f2.size = 0 ∧ x.f4 = 0 ∧ x.f3.length = 0), p - 1, d) := by
  cases x; simp only at hk; simp [takeV, hp, hk]; try rfl
theorem takeV_2 {x : S27} {p d : Int} (hp : ¬ p = 0) (hk : x.f0 = 2) : takeV x p d = (if 256 < x.f2.size then (false, p - 1, d) else (decide (x.f1 = 0 ∧ x.f4 = 0 ∧ x.f3.length = 0), p - 1, d)) := by
  cases x; simp only at hk; simp [takeV, hp, hk]; try rfl
theorem takeV_4 {x : S27} {p d : Int} (hp : ¬ p = 0) (hk : x.f0 = 4) : takeV x p d = (if x.f4 < 1 then (false, p - 1, d) else (decide (x.f1 = 0 ∧ x.f2.size = 0 ∧ x.f3.length = 0), p - 1, d)) := by
  cases x; simp only at hk; simp [takeV, hp, hk]; try rfl
theorem takeV_3 {x : S27} {p d : Int} (hp : ¬ p = 0) (hk : x.f0 = 3) : takeV x p d = (if d = 0 ∨ p - 1 < (x.f3.length : Int) then (false, p - 1, d) else
        match takeL x.f3 (p - 1) (d - 1) with
        | (false, p', d') => (false, p', d')
        | (true, p', d') => (decide (x.f1 = 0 ∧ x.f2.size = 0 ∧ x.f4 = 0), p', d' + 1)) := by
  cases x; simp only at hk; simp [takeV, hp, hk]; try rfl
theorem takeV_5 {x : S27} {p d : Int} (hp : ¬ p = 0) (h0 : ¬ x.f0 = 0) (h1 : ¬ x.f0 = 1) (h2 : ¬ x.f0 = 2) (h4 : ¬ x.f0 = 4) (h3 : ¬ x.f0 = 3) : takeV x p d = (false, p - 1, d) := by
  cases x; simp only at h0 h1 h2 h3 h4; simp [takeV, hp, h0, h1, h2, h3, h4]
theorem takeV_z {x : S27} {p d : Int} (hp : p = 0) : takeV x p d = (false, p, d) := by
  cases x; simp [takeV, hp]

/-- element k of a row that is read: its cells, and what they lead to -/
theorem at_F27 {w : World} {ok : Nat → Prop} {A : Option Addr} {n : Nat} {xs : List S27} (h : Kd.F k27 w ok A n xs) (k : Nat) (hk : k < n) :
    ∃ ad A3 c3, A = some ad ∧ w.cell? (ad.add (k * 5)) = some (.int .u8 (rd_T27 xs k).f0) ∧ w.cell? ⟨(ad.add (k * 5)).block, (ad.add (k * 5)).off + 1, none⟩ = some (.int .i64 (rd_T27 xs k).f1) ∧
      w.cell? ⟨(ad.add (k * 5)).block, (ad.add (k * 5)).off + 2, none⟩ = some (.string (rd_T27 xs k).f2) ∧ w.cell? ⟨(ad.add (k * 5)).block, (ad.add (k * 5)).off + 3, none⟩ = some (.slice A3 (rd_T27 xs k).f3.length c3) ∧
      w.cell? ⟨(ad.add (k * 5)).block, (ad.add (k * 5)).off + 4, none⟩ = some (.int .i64 (rd_T27 xs k).f4) ∧ (rd_T27 xs k).f3.length ≤ c3 ∧ Kd.F k27 w ok A3 (rd_T27 xs k).f3.length (rd_T27 xs k).f3 := by
  obtain ⟨ad, c, rfl, _, hK, hc, _⟩ := Kd.F_get h z27 (k : Int) (by omega) (by omega)
  obtain ⟨A3, c3, rfl, l3, g3⟩ := k27_openF hK
  exact ⟨ad, A3, c3, rfl, hc 0 _ rfl, by rw [← add_field _ _ 1 (by omega)]; exact hc 1 _ rfl, by rw [← add_field _ _ 2 (by omega)]; exact hc 2 _ rfl,
    by rw [← add_field _ _ 3 (by omega)]; exact hc 3 _ rfl, by rw [← add_field _ _ 4 (by omega)]; exact hc 4 _ rfl, l3, g3⟩

/-- what is read stays what it was, where its blocks stay -/
theorem ex_F {S ok : Nat → Prop} {w w1 : World} {α : Type} {d : Kd α} {A : Option Addr} {n : Nat} {xs : List α} (h : Ex S w w1) (hf : Kd.F d w ok A n xs) (hs : ∀ k, ok k → ¬ S k) : Kd.F d w1 ok A n xs :=
  Kd.F_step hf (fun k hk hlt => h.block k hlt (hs k hk))

/-- the end of a walk that has taken one part away -/
def Left (g : Nat) (t : Bool × Int × Int) (w : World) (e : Ending) (w' : World) : Prop :=
  e = .returned (.bool t.1) ∧ Ex (fun b => b = g) w w' ∧ w'.heap[g]? = some (.cells #[.int .i64 t.2.1, .int .i64 t.2.2] 108 (0, 0))

theorem left_mk {g : Nat} {t : Bool × Int × Int} {w W : World} {b : Bool} {q d : Int} (ht : t = (b, q, d)) (hx : Ex (fun b => b = g) w W) (hg : W.heap[g]? = some (.cells #[.int .i64 q, .int .i64 d] 108 (0, 0))) :
    Left g t w (.returned (.bool b)) W := by
  subst ht
  exact ⟨rfl, hx, hg⟩
theorem left_now {g : Nat} {t : Bool × Int × Int} {w : World} {b : Bool} {p q d : Int} (hg : w.heap[g]? = some (.cells #[.int .i64 p, .int .i64 d] 108 (0, 0))) (o1 o2 : Obj) (ht : t = (b, q, d)) :
    Left g t w (.returned (.bool b)) (((w.setCell ⟨g, 0, none⟩ (.int .i64 q)).alloc o1).alloc o2) := by
  subst ht
  exact ⟨rfl, (((Ex.refl (fun b => b = g) w).set (p := ⟨g, 0, none⟩) (.inl rfl) _).alloc _).alloc _, blk_alloc (blk_alloc (blk_put hg 0 _ rfl) _) _⟩

theorem left_nowN {g : Nat} {t : Bool × Int × Int} {w : World} {b : Bool} {p q d : Int} (hg : w.heap[g]? = some (.cells #[.int .i64 p, .int .i64 d] 108 (0, 0))) (o1 o2 : Obj) (n : Nat) (ht : t = (b, q, d)) :
    Left g t w (.returned (.bool b)) ((((w.setCell ⟨g, 0, none⟩ (.int .i64 q)).alloc o1).alloc o2).drewN n) := by
  subst ht
  exact ⟨rfl, ((((Ex.refl (fun b => b = g) w).set (p := ⟨g, 0, none⟩) (.inl rfl) _).alloc _).alloc _).drewN _, blk_drewN (blk_alloc (blk_alloc (blk_put hg 0 _ rfl) _) _) _⟩

theorem ret_bool {b c : Bool} (h : b = c) : Ending.returned (.bool b) = .returned (.bool c) := by rw [h]

set_option maxHeartbeats 400000 in
theorem take_z (x : S27) (p d : Int) (A : Option Addr) (c : Nat) (w : World) (g : Nat) (hp : p = 0)
    (hg : w.heap[g]? = some (.cells #[.int .i64 p, .int .i64 d] 108 (0, 0))) :
    Calls Try.prog 55 #[.pointer (some ⟨g, 0, none⟩), .agg #[.int .u8 x.f0, .int .i64 x.f1, .string x.f2, .slice A x.f3.length c, .int .i64 x.f4]] w (Left g (takeV x p d) w) := by
  have hc0 : w.cell? ⟨g, 0, none⟩ = some (.int .i64 p) := (blk_cell hg 0).trans rfl
  have hlt := lt_of_blk hg
  have hp0 : (p == 0) = true := by simp; omega
  have HG := Aside0.mk hg
  have HT := Aside0.mk (takeV_z (x := x) (p := p) (d := d) hp)
  clear hg hp
  go_enter Try.func55, Try.ntmps55
  go_wp2
  go_ret
  exact left_mk HT.out ((Ex.refl (fun b => b = g) w).alloc _) (blk_alloc HG.out _)

set_option maxHeartbeats 400000 in
theorem take_0 (x : S27) (p d : Int) (A : Option Addr) (c : Nat) (w : World) (g : Nat) (hp : 0 < p) (hp2 : p ≤ 512) (hk : x.f0 = 0)
    (hg : w.heap[g]? = some (.cells #[.int .i64 p, .int .i64 d] 108 (0, 0))) :
    Calls Try.prog 55 #[.pointer (some ⟨g, 0, none⟩), .agg #[.int .u8 x.f0, .int .i64 x.f1, .string x.f2, .slice A x.f3.length c, .int .i64 x.f4]] w (Left g (takeV x p d) w) := by
  have hc0 : w.cell? ⟨g, 0, none⟩ = some (.int .i64 p) := (blk_cell hg 0).trans rfl
  have hf0 := blk_frozen hg 0
  have hlt := lt_of_blk hg
  have hp0 : (p == 0) = false := by simp; omega
  have HG := Aside0.mk hg
  have HT := Aside0.mk ((takeV_0 (x := x) (p := p) (d := d) (by omega) hk))
  clear hg
  rw [hk]
  clear hk
  go_enter Try.func55, Try.ntmps55
  go_wp2
  all_goals
    go_ret
    refine left_now HG.out _ _ (HT.out.trans ?_)
    clear HG HT hc0 hf0 hlt
    simp_all [toList_nil, dec_nil]

set_option maxHeartbeats 400000 in
theorem take_1 (x : S27) (p d : Int) (A : Option Addr) (c : Nat) (w : World) (g : Nat) (hp : 0 < p) (hp2 : p ≤ 512) (hk : x.f0 = 1)
    (hg : w.heap[g]? = some (.cells #[.int .i64 p, .int .i64 d] 108 (0, 0))) :
    Calls Try.prog 55 #[.pointer (some ⟨g, 0, none⟩), .agg #[.int .u8 x.f0, .int .i64 x.f1, .string x.f2, .slice A x.f3.length c, .int .i64 x.f4]] w (Left g (takeV x p d) w) := by
  have hc0 : w.cell? ⟨g, 0, none⟩ = some (.int .i64 p) := (blk_cell hg 0).trans rfl
  have hf0 := blk_frozen hg 0
  have hlt := lt_of_blk hg
  have hp0 : (p == 0) = false := by simp; omega
  have HG := Aside0.mk hg
  have HT := Aside0.mk ((takeV_1 (x := x) (p := p) (d := d) (by omega) hk))
  clear hg
  rw [hk]
  clear hk
  go_enter Try.func55, Try.ntmps55
  go_wp2
  all_goals
    go_ret
    refine left_now HG.out _ _ (HT.out.trans ?_)
    clear HG HT hc0 hf0 hlt
    simp_all [toList_nil, dec_nil]

set_option maxHeartbeats 400000 in
theorem take_2 (x : S27) (p d : Int) (A : Option Addr) (c : Nat) (w : World) (g : Nat) (hp : 0 < p) (hp2 : p ≤ 512) (hk : x.f0 = 2) (hs : ¬ 256 < x.f2.size)
    (hg : w.heap[g]? = some (.cells #[.int .i64 p, .int .i64 d] 108 (0, 0))) :
    Calls Try.prog 55 #[.pointer (some ⟨g, 0, none⟩), .agg #[.int .u8 x.f0, .int .i64 x.f1, .string x.f2, .slice A x.f3.length c, .int .i64 x.f4]] w (Left g (takeV x p d) w) := by
  have hc0 : w.cell? ⟨g, 0, none⟩ = some (.int .i64 p) := (blk_cell hg 0).trans rfl
  have hf0 := blk_frozen hg 0
  have hlt := lt_of_blk hg
  have hp0 : (p == 0) = false := by simp; omega
  have HG := Aside0.mk hg
  have HT := Aside0.mk ((takeV_2 (x := x) (p := p) (d := d) (by omega) hk).trans (if_neg hs))
  clear hg
  rw [hk]
  clear hk
  have hs2 : decide ((x.f2.size : Int) > 256) = false := by simp; omega
  go_enter Try.func55, Try.ntmps55
  go_wp2
  all_goals
    go_ret
    refine left_now HG.out _ _ (HT.out.trans ?_)
    clear HG HT hc0 hf0 hlt
    simp_all [toList_nil, dec_nil]

set_option maxHeartbeats 400000 in
theorem take_2b (x : S27) (p d : Int) (A : Option Addr) (c : Nat) (w : World) (g : Nat) (hp : 0 < p) (hp2 : p ≤ 512) (hk : x.f0 = 2) (hs : 256 < x.f2.size)
    (hg : w.heap[g]? = some (.cells #[.int .i64 p, .int .i64 d] 108 (0, 0))) :
    Calls Try.prog 55 #[.pointer (some ⟨g, 0, none⟩), .agg #[.int .u8 x.f0, .int .i64 x.f1, .string x.f2, .slice A x.f3.length c, .int .i64 x.f4]] w (Left g (takeV x p d) w) := by
  have hc0 : w.cell? ⟨g, 0, none⟩ = some (.int .i64 p) := (blk_cell hg 0).trans rfl
  have hf0 := blk_frozen hg 0
  have hlt := lt_of_blk hg
  have hp0 : (p == 0) = false := by simp; omega
  have HG := Aside0.mk hg
  have HT := Aside0.mk ((takeV_2 (x := x) (p := p) (d := d) (by omega) hk).trans (if_pos hs))
  clear hg
  rw [hk]
  clear hk
  have hs2 : decide ((x.f2.size : Int) > 256) = true := by simp; omega
  go_enter Try.func55, Try.ntmps55
  go_wp2
  all_goals
    go_ret
    refine left_now HG.out _ _ (HT.out.trans ?_)
    clear HG HT hc0 hf0 hlt
    simp_all [toList_nil, dec_nil]

set_option maxHeartbeats 400000 in
theorem take_4 (x : S27) (p d : Int) (A : Option Addr) (c : Nat) (w : World) (g : Nat) (hp : 0 < p) (hp2 : p ≤ 512) (hk : x.f0 = 4) (hs : ¬ x.f4 < 1)
    (hg : w.heap[g]? = some (.cells #[.int .i64 p, .int .i64 d] 108 (0, 0))) :
    Calls Try.prog 55 #[.pointer (some ⟨g, 0, none⟩), .agg #[.int .u8 x.f0, .int .i64 x.f1, .string x.f2, .slice A x.f3.length c, .int .i64 x.f4]] w (Left g (takeV x p d) w) := by
  have hc0 : w.cell? ⟨g, 0, none⟩ = some (.int .i64 p) := (blk_cell hg 0).trans rfl
  have hf0 := blk_frozen hg 0
  have hlt := lt_of_blk hg
  have hp0 : (p == 0) = false := by simp; omega
  have HG := Aside0.mk hg
  have HT := Aside0.mk ((takeV_4 (x := x) (p := p) (d := d) (by omega) hk).trans (if_neg hs))
  clear hg
  rw [hk]
  clear hk
  have hs2 : decide (x.f4 < 1) = false := by simp; omega
  go_enter Try.func55, Try.ntmps55
  go_wp2
  all_goals
    go_ret
    refine left_now HG.out _ _ (HT.out.trans ?_)
    clear HG HT hc0 hf0 hlt
    simp_all [toList_nil, dec_nil]

set_option maxHeartbeats 400000 in
theorem take_4b (x : S27) (p d : Int) (A : Option Addr) (c : Nat) (w : World) (g : Nat) (hp : 0 < p) (hp2 : p ≤ 512) (hk : x.f0 = 4) (hs : x.f4 < 1)
    (hg : w.heap[g]? = some (.cells #[.int .i64 p, .int .i64 d] 108 (0, 0))) :
    Calls Try.prog 55 #[.pointer (some ⟨g, 0, none⟩), .agg #[.int .u8 x.f0, .int .i64 x.f1, .string x.f2, .slice A x.f3.length c, .int .i64 x.f4]] w (Left g (takeV x p d) w) := by
  have hc0 : w.cell? ⟨g, 0, none⟩ = some (.int .i64 p) := (blk_cell hg 0).trans rfl
  have hf0 := blk_frozen hg 0
  have hlt := lt_of_blk hg
  have hp0 : (p == 0) = false := by simp; omega
  have HG := Aside0.mk hg
  have HT := Aside0.mk ((takeV_4 (x := x) (p := p) (d := d) (by omega) hk).trans (if_pos hs))
  clear hg
  rw [hk]
  clear hk
  have hs2 : decide (x.f4 < 1) = true := by simp; omega
  go_enter Try.func55, Try.ntmps55
  go_wp2
  all_goals
    go_ret
    refine left_now HG.out _ _ (HT.out.trans ?_)
    clear HG HT hc0 hf0 hlt
    simp_all [toList_nil, dec_nil]

set_option maxHeartbeats 400000 in
theorem take_5 (x : S27) (p d : Int) (A : Option Addr) (c : Nat) (w : World) (g : Nat) (hp : 0 < p) (hp2 : p ≤ 512) (h0 : ¬ x.f0 = 0) (h1 : ¬ x.f0 = 1) (h2 : ¬ x.f0 = 2) (h4 : ¬ x.f0 = 4) (h3 : ¬ x.f0 = 3)
    (hg : w.heap[g]? = some (.cells #[.int .i64 p, .int .i64 d] 108 (0, 0))) :
    Calls Try.prog 55 #[.pointer (some ⟨g, 0, none⟩), .agg #[.int .u8 x.f0, .int .i64 x.f1, .string x.f2, .slice A x.f3.length c, .int .i64 x.f4]] w (Left g (takeV x p d) w) := by
  have hc0 : w.cell? ⟨g, 0, none⟩ = some (.int .i64 p) := (blk_cell hg 0).trans rfl
  have hf0 := blk_frozen hg 0
  have hlt := lt_of_blk hg
  have hp0 : (p == 0) = false := by simp; omega
  have HG := Aside0.mk hg
  have HT := Aside0.mk ((takeV_5 (x := x) (p := p) (d := d) (by omega) h0 h1 h2 h4 h3))
  clear hg
  have b0 : (x.f0 == 0) = false := by simp; omega
  have b1 : (x.f0 == 1) = false := by simp; omega
  have b2 : (x.f0 == 2) = false := by simp; omega
  have b4 : (x.f0 == 4) = false := by simp; omega
  have b3 : (x.f0 == 3) = false := by simp; omega
  clear h0 h1 h2 h3 h4
  go_enter Try.func55, Try.ntmps55
  go_wp2
  all_goals
    go_ret
    refine left_now HG.out _ _ (HT.out.trans ?_)
    clear HG HT hc0 hf0 hlt
    simp_all [toList_nil, dec_nil]

end Go.Proofs.Ythkemcekcfccpaa.PBrandCompares
