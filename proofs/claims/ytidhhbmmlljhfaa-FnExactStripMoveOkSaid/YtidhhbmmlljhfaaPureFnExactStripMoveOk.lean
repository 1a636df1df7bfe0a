/- FnExactStripMoveOk, the pure statement: both answers are the same; no condition but the argument's kinds. -/
import Derived.Test.YtidhhbmmlljhfaaMoveOk
import Derived.Test.YtidhhbmmlljhfaaG12
namespace Go.Proofs.Ytidhhbmmlljhfaa.Pure
open Go.RowKit Go.Proofs.YtidhhbmmlljhfaaW.PrintWords Go.Proofs.Ytidhhbmmlljhfaa.G
theorem FnExactStripMoveOk (n1 : ByteArray) (b1 : Bool) (w1 e1 l1 p1 : Int) (_ : n1.size ≤ maxLen) (_ : (Lit.int .i64 w1).wf = true) (_ : (Lit.int .i64 e1).wf = true) (_ : (Lit.int .i64 l1).wf = true) (_ : (Lit.int .i64 p1).wf = true) :
    ∃ k, laws_FnExactStripMoveOk.f k n1 b1 w1 e1 l1 p1 = some true := by
  refine ⟨20, ?_⟩
  simp only [laws_FnExactStripMoveOk.f, laws_szStripMove.f, laws_toStripMove.f, Option.bind_some]
  simp only [spec_moveOk n1 b1 w1 e1 l1 p1 20 (by omega), impl_moveOk n1 b1 w1 e1 l1 p1 20 (by omega), Option.bind_some]
  split <;> simp <;> (try split) <;> simp
end Go.Proofs.Ytidhhbmmlljhfaa.Pure
