-- made by this session's own printer (mkprint.py: the kit's printer with given contracts)
import Derived.Test.YtnicflgogkakeaaDoorQFnExactLeftTextx0
import Derived.Test.YtnicflgogkakeaaDoorQFnExactLeftTextx1
import Derived.Test.YtnicflgogkakeaaDoorQFnExactLeftTextx2
import Derived.Test.YtnicflgogkakeaaDoorQFnExactLeftTextx3
import Derived.Test.YtnicflgogkakeaaDoorQFnExactLeftTextx4
namespace Go.Proofs.YtnicflgogkakeaaDoor.QFnExactLeftText
open Go.RowKit Go.Proofs.YtnicflgogkakeaaDoorW.PrintWords Go.Proofs.YtnicflgogkakeaaDoorW.PrintLast Go.Proofs.YtnicflgogkakeaaDoorW.PrintMore
attribute [local go_sem] max2_int min2_int max_two min_two max_three min_three max_four min_four   -- for this text's walks alone
set_option linter.unusedVariables false
set_option linter.unusedSimpArgs false

end Go.Proofs.YtnicflgogkakeaaDoor.QFnExactLeftText
