-- made by this session's own printer (mkprint.py: the kit's printer with given contracts)
import Derived.Test.YtnicflgogkakeaaQFnExactLedgerx0
import Derived.Test.YtnicflgogkakeaaQFnExactLedgerx1
import Derived.Test.YtnicflgogkakeaaQFnExactLedgerx2
import Derived.Test.YtnicflgogkakeaaQFnExactLedgerx3
import Derived.Test.YtnicflgogkakeaaQFnExactLedgerx4
import Derived.Test.YtnicflgogkakeaaQFnExactLedgerx5
import Derived.Test.YtnicflgogkakeaaQFnExactLedgerx6
namespace Go.Proofs.Ytnicflgogkakeaa.QFnExactLedger
open Go.RowKit Go.Proofs.YtnicflgogkakeaaW.PrintWords Go.Proofs.YtnicflgogkakeaaW.PrintLast Go.Proofs.YtnicflgogkakeaaW.PrintMore
attribute [local go_sem] max2_int min2_int max_two min_two max_three min_three max_four min_four   -- for this text's walks alone
set_option linter.unusedVariables false
set_option linter.unusedSimpArgs false

end Go.Proofs.Ytnicflgogkakeaa.QFnExactLedger
