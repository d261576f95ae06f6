-- made by this session's own printer (mkprint.py: the kit's printer with given contracts)
import Derived.Test.YtnicflgogkakeaaDoorQFnExactConfTextx0
import Derived.Test.YtnicflgogkakeaaDoorQFnExactConfTextx1
import Derived.Test.YtnicflgogkakeaaDoorQFnExactConfTextx2
import Derived.Test.YtnicflgogkakeaaDoorQFnExactConfTextx3
import Derived.Test.YtnicflgogkakeaaDoorQFnExactConfTextx4
import Derived.Test.YtnicflgogkakeaaDoorQFnExactConfTextx5
import Derived.Test.YtnicflgogkakeaaDoorQFnExactConfTextx6
import Derived.Test.YtnicflgogkakeaaDoorQFnExactConfTextx7
import Derived.Test.YtnicflgogkakeaaDoorQFnExactConfTextx8
import Derived.Test.YtnicflgogkakeaaDoorQFnExactConfTextx9
import Derived.Test.YtnicflgogkakeaaDoorQFnExactConfTextx10
import Derived.Test.YtnicflgogkakeaaDoorQFnExactConfTextx11
namespace Go.Proofs.YtnicflgogkakeaaDoor.QFnExactConfText
open Go.RowKit Go.Proofs.YtnicflgogkakeaaDoorW.PrintWords Go.Proofs.YtnicflgogkakeaaDoorW.PrintLast Go.Proofs.YtnicflgogkakeaaDoorW.PrintMore
attribute [local go_sem] max2_int min2_int max_two min_two max_three min_three max_four min_four   -- for this text's walks alone
set_option linter.unusedVariables false
set_option linter.unusedSimpArgs false

end Go.Proofs.YtnicflgogkakeaaDoor.QFnExactConfText
