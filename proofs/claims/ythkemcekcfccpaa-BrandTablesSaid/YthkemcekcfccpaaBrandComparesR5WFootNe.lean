/- Lemmas for R5. -/
import Derived.Test.YthkemcekcfccpaaBrandComparesR5WN
namespace Go.Proofs.YthkemcekcfccpaaW.PrintWords
open Go.RowKit
namespace Kd
section
variable {α : Type} {d : Kd α} {W : World} {g n : Nat} {S ok : Nat → Prop} {A : Option Addr} {ad : Addr} {xs : List α}
end
end Kd
end Go.Proofs.YthkemcekcfccpaaW.PrintWords
