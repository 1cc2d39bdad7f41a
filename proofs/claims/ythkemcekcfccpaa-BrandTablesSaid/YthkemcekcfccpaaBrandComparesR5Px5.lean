/- Lemmas for R5. -/
import Derived.Test.YthkemcekcfccpaaBrandComparesR5Px0
import Derived.Test.YthkemcekcfccpaaBrandComparesR5Px2
import Derived.Test.YthkemcekcfccpaaBrandComparesR5Px4
namespace Go.Proofs.Ythkemcekcfccpaa.PBrandCompares
open Go.RowKit Go.Proofs.YthkemcekcfccpaaW.PrintWords Go.Proofs.YthkemcekcfccpaaW.PrintLast Go.Proofs.YthkemcekcfccpaaW.PrintMore
attribute [local go_sem] max2_int min2_int max_two min_two max_three min_three max_four min_four   -- for this text's walks alone
set_option linter.unusedVariables false
set_option linter.unusedSimpArgs false
end Go.Proofs.Ythkemcekcfccpaa.PBrandCompares
