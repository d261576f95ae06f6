-- made by this session's own printer (mkprint.py: the kit's printer with given contracts)
import Derived.Test.YtnicflgogkakeaaDoorQFnExactEventTextx0
import Derived.Test.YtnicflgogkakeaaDoorQFnExactEventTextx1
import Derived.Test.YtnicflgogkakeaaDoorQFnExactEventTextx2
import Derived.Test.YtnicflgogkakeaaDoorQFnExactEventTextx3
import Derived.Test.YtnicflgogkakeaaDoorQFnExactEventTextx4
import Derived.Test.YtnicflgogkakeaaDoorQFnExactEventTextx5
import Derived.Test.YtnicflgogkakeaaDoorQFnExactEventTextx6
import Derived.Test.YtnicflgogkakeaaDoorQFnExactEventTextx7
namespace Go.Proofs.YtnicflgogkakeaaDoor.QFnExactEventText
open Go.RowKit Go.Proofs.YtnicflgogkakeaaDoorW.PrintWords Go.Proofs.YtnicflgogkakeaaDoorW.PrintLast Go.Proofs.YtnicflgogkakeaaDoorW.PrintMore
attribute [local go_sem] max2_int min2_int max_two min_two max_three min_three max_four min_four   -- for this text's walks alone
set_option linter.unusedVariables false
set_option linter.unusedSimpArgs false

end Go.Proofs.YtnicflgogkakeaaDoor.QFnExactEventText
