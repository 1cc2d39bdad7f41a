/- Lemmas for R5. -/
import Derived.Test.YthkemcekcfccpaaBrandComparesR5WInv
import Derived.Test.YthkemcekcfccpaaBrandComparesR5WFootNe
namespace Go.Proofs.YthkemcekcfccpaaW.PrintWords
open Go.RowKit
end Go.Proofs.YthkemcekcfccpaaW.PrintWords
namespace Go.Proofs.YthkemcekcfccpaaW.PrintLast
section
variable {ops : Array Oper} {a : Act} {o og : Oper} {g : Nat} {t : Tmp} {u : Bool}
end
end Go.Proofs.YthkemcekcfccpaaW.PrintLast
