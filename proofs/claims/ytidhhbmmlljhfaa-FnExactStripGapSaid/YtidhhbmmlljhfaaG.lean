/- The plain functions of this seat's Go text and, for each, that the call comes to what its plain function says: written for this claim by a program of the session (drv.py) over the kit's print.py. -/
import Derived.Test.YtidhhbmmlljhfaaG0
import Derived.Test.YtidhhbmmlljhfaaG1
import Derived.Test.YtidhhbmmlljhfaaG2
import Derived.Test.YtidhhbmmlljhfaaG3
import Derived.Test.YtidhhbmmlljhfaaG4
import Derived.Test.YtidhhbmmlljhfaaG5
import Derived.Test.YtidhhbmmlljhfaaG6
import Derived.Test.YtidhhbmmlljhfaaG7
import Derived.Test.YtidhhbmmlljhfaaG8
import Derived.Test.YtidhhbmmlljhfaaG9
import Derived.Test.YtidhhbmmlljhfaaG10
import Derived.Test.YtidhhbmmlljhfaaG11
import Derived.Test.YtidhhbmmlljhfaaG12
namespace Go.Proofs.Ytidhhbmmlljhfaa.G
open Go.RowKit Go.Proofs.YtidhhbmmlljhfaaW.PrintWords Go.Proofs.YtidhhbmmlljhfaaW.PrintLast Go.Proofs.YtidhhbmmlljhfaaW.PrintMore
attribute [local go_sem] max2_int min2_int max_two min_two max_three min_three max_four min_four   -- for this text's walks alone
set_option linter.unusedVariables false
set_option linter.unusedSimpArgs false

end Go.Proofs.Ytidhhbmmlljhfaa.G
