/- FnExactConstants: the pure statement, proved by evaluation; no condition. -/
import Derived.Test.YtidhhbmmlljhfaaPFnExactConstantsx1
namespace Go.Proofs.Ytidhhbmmlljhfaa.Pure
open Go.RowKit Go.Proofs.Ytidhhbmmlljhfaa.PFnExactConstants Go.Proofs.YtidhhbmmlljhfaaW.PrintWords Go.Proofs.YtidhhbmmlljhfaaW.PrintLast

/-- YOURS: laws_FnExactConstants.f  = some true
What it reaches (each with k first where it has rounds; `.mono`: more rounds tell the same; `.l0`, ..: its loops, with `.mono_l`): laws_FnExactConstants.f -/
theorem FnExactConstants : laws_FnExactConstants.Pure := rfl

end Go.Proofs.Ytidhhbmmlljhfaa.Pure
