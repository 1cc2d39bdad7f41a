/- Lemmas for R5. -/
import Derived.Test.YthkemcekcfccpaaBrandComparesR5WWords
import Derived.Laws.StructEq
namespace Go.Proofs.YthkemcekcfccpaaW.PrintWords
open Go.RowKit
section
variable {P : Program} {d : Nat} {xs ys : Array Value} {f : Field} {fs : List Field} {a b : Value} {r s : Bool} {w : World}
end
end Go.Proofs.YthkemcekcfccpaaW.PrintWords
