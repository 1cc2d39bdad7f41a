/- Laws of the model's == on interface values and on structs of two such, and of a key's check, over any program. -/
import Derived.WalkKit
namespace Go.Proofs.Ythkemcekcfccpaa.GBrandCompares
variable {P : Program}

theorem eq_same {t tx : TypeId} {ms : Array (String × TypeId)} {i : TypeInfo} (ht : P.underlying t = some (.interface ms)) (hi : P.info? tx = some i) (hc : i.comparable = true) (d : Nat) (x y : Value) (w : World) :
    (Op.equalIn (d + 1) t (.iface tx x) (.iface tx y)).run P w = (Op.equalIn d tx x y).run P w := by
  simp [Op.equalIn, run_underlying ht, typeInfo, hi, hc]

theorem eq_unlike {t tx ty : TypeId} {ms : Array (String × TypeId)} (ht : P.underlying t = some (.interface ms)) (hne : tx ≠ ty) (d : Nat) (x y : Value) (w : World) :
    (Op.equalIn (d + 1) t (.iface tx x) (.iface ty y)).run P w = .ok false w := by
  simp [Op.equalIn, run_underlying ht, hne]

theorem eq_panics {t tx : TypeId} {ms : Array (String × TypeId)} {i : TypeInfo} (ht : P.underlying t = some (.interface ms)) (hi : P.info? tx = some i) (hc : i.comparable = false) (hp : P.holdsPacked P.depth tx = false) (hs : i.str ≠ "")
    {e : TypeId} (he : P.rt.errorString = e) (d : Nat) (x y : Value) (w : World) :
    (Op.equalIn (d + 1) t (.iface tx x) (.iface tx y)).run P w = .halt (.panic (.iface e (strVal ("comparing uncomparable type " ++ i.str)))) w := by
  simp [Op.equalIn, run_underlying ht, typeInfo, hi, hc, hp, typeStr, hs, runtimePanic, he, goPanic]

theorem eq_int {t : TypeId} {k : IntKind} (ht : P.underlying t = some (.int k)) (d : Nat) (q : IntKind) (a b : Int) (w : World) :
    (Op.equalIn (d + 1) t (.int q a) (.int q b)).run P w = .ok (a == b) w := by
  simp [Op.equalIn, run_underlying ht]

theorem eq_string {t : TypeId} (ht : P.underlying t = some .string) (d : Nat) (a b : ByteArray) (w : World) :
    (Op.equalIn (d + 1) t (.string a) (.string b)).run P w = .ok (a == b) w := by
  simp [Op.equalIn, run_underlying ht]

theorem eq_struct0 {t : TypeId} (ht : P.underlying t = some (.struct #[])) (hs : P.stoodInHeld t = false) (d : Nat) (w : World) :
    (Op.equalIn (d + 1) t (.agg #[]) (.agg #[])).run P w = .ok true w := by
  simp [Op.equalIn, run_underlying ht, hs]

theorem eq_struct2 {t e : TypeId} {f0 f1 : Field} {ms : Array (String × TypeId)} (ht : P.underlying t = some (.struct #[f0, f1])) (hs : P.stoodInHeld t = false) (he : P.underlying e = some (.interface ms))
    (n0 : (f0.name = "_") = False) (n1 : (f1.name = "_") = False) (t0 : f0.type = e) (t1 : f1.type = e) (o0 : f0.offset = 0) (o1 : f1.offset = 1) (d : Nat) (a b a' b' : Value) (w : World) :
    (Op.equalIn (d + 1) t (.agg #[a, b]) (.agg #[a', b'])).run P w = match (Op.equalIn d e a a').run P w with
      | .ok true w' => (Op.equalIn d e b b').run P w'
      | .ok false w' => .ok false w'
      | .halt h w' => .halt h w' := by
  simp [Op.equalIn, run_underlying ht, run_underlying he, hs, n0, n1, t0, t1, o0, o1, part, isAgg, Sem.run_bind]
  cases (Op.equalIn d e a a').run P w with
  | halt h w' => simp
  | ok r w' =>
    cases r
    · simp
    · simp
      cases (Op.equalIn d e b b').run P w' with
      | halt h w' => simp
      | ok r w' => cases r <;> simp

theorem check_same {t tx : TypeId} {ms : Array (String × TypeId)} {i : TypeInfo} (ht : P.underlying t = some (.interface ms)) (hi : P.info? tx = some i) (hc : i.comparable = true) (e : Bool) (d : Nat) (x : Value) (w : World) :
    (Instr.checkKey e (d + 1) t (.iface tx x)).run P w = (Instr.checkKey e d tx x).run P w := by
  simp [Instr.checkKey, run_underlying ht, typeInfo, hi, hc]

theorem check_empty {t tx : TypeId} {ms : Array (String × TypeId)} {i : TypeInfo} (ht : P.underlying t = some (.interface ms)) (hi : P.info? tx = some i) (hc : i.comparable = false) {e : TypeId} (he : P.rt.unhashableTypeError = e) (d : Nat) (x : Value) (w : World) :
    (Instr.checkKey true (d + 1) t (.iface tx x)).run P w = .halt (.panic (.iface e (.agg #[typeHandle P tx]))) w := by
  simp [Instr.checkKey, run_underlying ht, typeInfo, hi, hc, runtimePanic, he, goPanic]

theorem check_full {t tx : TypeId} {ms : Array (String × TypeId)} {i : TypeInfo} (ht : P.underlying t = some (.interface ms)) (hi : P.info? tx = some i) (hc : i.comparable = false) (hs : i.str ≠ "")
    {e : TypeId} (he : P.rt.errorString = e) (d : Nat) (x : Value) (w : World) :
    (Instr.checkKey false (d + 1) t (.iface tx x)).run P w = .halt (.panic (.iface e (strVal ("hash of unhashable type " ++ i.str)))) w := by
  simp [Instr.checkKey, run_underlying ht, typeInfo, hi, hc, typeStr, hs, runtimePanic, he, goPanic]

theorem check_int {t : TypeId} {k : IntKind} (ht : P.underlying t = some (.int k)) (e : Bool) (d : Nat) (x : Value) (w : World) :
    (Instr.checkKey e (d + 1) t x).run P w = .ok () w := by
  simp [Instr.checkKey, run_underlying ht]

theorem check_string {t : TypeId} (ht : P.underlying t = some .string) (e : Bool) (d : Nat) (x : Value) (w : World) :
    (Instr.checkKey e (d + 1) t x).run P w = .ok () w := by
  simp [Instr.checkKey, run_underlying ht]

theorem check_struct0 {t : TypeId} (ht : P.underlying t = some (.struct #[])) (e : Bool) (d : Nat) (w : World) :
    (Instr.checkKey e (d + 1) t (.agg #[])).run P w = .ok () w := by
  simp [Instr.checkKey, run_underlying ht]

theorem check_struct2 {t e : TypeId} {f0 f1 : Field} {ms : Array (String × TypeId)} (ht : P.underlying t = some (.struct #[f0, f1])) (he : P.underlying e = some (.interface ms))
    (n0 : (f0.name = "_") = False) (n1 : (f1.name = "_") = False) (t0 : f0.type = e) (t1 : f1.type = e) (o0 : f0.offset = 0) (o1 : f1.offset = 1) (em : Bool) (d : Nat) (a b : Value) (w : World) :
    (Instr.checkKey em (d + 1) t (.agg #[a, b])).run P w = match (Instr.checkKey em d e a).run P w with
      | .ok _ w' => (Instr.checkKey em d e b).run P w'
      | .halt h w' => .halt h w' := by
  simp [Instr.checkKey, run_underlying ht, run_underlying he, n0, n1, t0, t1, o0, o1, part, isAgg, Sem.run_bind]
  cases (Instr.checkKey em d e a).run P w with
  | halt h w' => simp
  | ok r w' => simp

end Go.Proofs.Ythkemcekcfccpaa.GBrandCompares
