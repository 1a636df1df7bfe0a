/- FnExactStripShift, the pure statement: both shifts are the same number and the lists read as before; no condition but the arguments' kinds. -/
import Derived.Test.YtpdmimlkgmhepaaOrder
import Derived.Test.YtpdmimlkgmhepaaCopy
import Derived.Test.YtpdmimlkgmhepaaGlaws0FnExactStripShift
namespace Go.Proofs.Ytpdmimlkgmhepaa.Pure
set_option linter.unusedVariables false
set_option linter.unusedSimpArgs false
open Go.RowKit Go.Proofs.YtpdmimlkgmhepaaW.PrintWords Go.Proofs.Ytpdmimlkgmhepaa.G
theorem FnExactStripShift (l0 : List Int) (_ : l0.length ≤ maxLen) (_ : ∀ z ∈ l0, (Lit.int .i64 z).wf = true) (l1 : List Int) (_ : l1.length ≤ maxLen) (_ : ∀ z ∈ l1, (Lit.int .i64 z).wf = true) : ∃ k, laws_FnExactStripShift.f k l0 l1 = some true := by
  refine Ev.rounds (r := true) ?_
  unfold laws_FnExactStripShift.f
  refine Ev.ite (fun _ => Ev.some rfl) (fun h0 => Ev.ite (fun _ => Ev.some rfl) (fun h1 => ?_))
  have k0 : l0.length ≤ 1048576 := by omega
  have k1 : l1.length ≤ 1048576 := by omega
  refine Ev.bind (toInts l0 k0) (Ev.bind (toInts l1 k1) (Ev.bind (spec_shift l0 l1 k0 k1) (Ev.bind (toInts l0 k0) (Ev.bind (toInts l1 k1) (Ev.bind (impl_shift l0 l1 k0 k1) (Ev.pos rfl ?_))))))
  refine Ev.bind (toInts l0 k0) (Ev.bind (eqInts l0 k0) (Ev.pos rfl ?_))
  exact Ev.bind (toInts l1 k1) (Ev.bind (eqInts l1 k1) (Ev.pos rfl (Ev.some rfl)))
end Go.Proofs.Ytpdmimlkgmhepaa.Pure
