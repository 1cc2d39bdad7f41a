/- Lemmas for R5. -/
import Derived.Test.YthkemcekcfccpaaBrandComparesR5WWords
namespace Go.Proofs.YthkemcekcfccpaaW.PrintWords
end Go.Proofs.YthkemcekcfccpaaW.PrintWords
