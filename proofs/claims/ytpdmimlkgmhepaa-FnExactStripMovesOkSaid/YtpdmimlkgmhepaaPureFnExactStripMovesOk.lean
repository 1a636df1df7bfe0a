/- FnExactStripMovesOk, the pure statement: both answers are the same; no condition but the argument's kinds. -/
import Derived.Test.YtpdmimlkgmhepaaCopyM
import Derived.Test.YtpdmimlkgmhepaaGlaws0FnExactStripMovesOk
namespace Go.Proofs.Ytpdmimlkgmhepaa.Pure
set_option linter.unusedVariables false
set_option linter.unusedSimpArgs false
open Go.RowKit Go.Proofs.YtpdmimlkgmhepaaW.PrintWords Go.Proofs.Ytpdmimlkgmhepaa.G
theorem FnExactStripMovesOk (l : List Lm) (hl : l.length ≤ maxLen) (hw : ∀ x ∈ l, LmWf x) : ∃ k, laws_FnExactStripMovesOk.f k l = some true := by
  refine Ev.rounds (r := true) ?_
  unfold laws_FnExactStripMovesOk.f
  obtain ⟨t, h1, h2, h3⟩ := szMoves l 1048576 (by omega) (by omega) hl hw
  refine Ev.bind h1 (Ev.ite (fun _ => Ev.some rfl) (fun h0 => ?_))
  obtain ⟨h4, _⟩ := h3 (by omega)
  have k0 : l.length ≤ 1048576 := by omega
  have k1 : (l.map toM).length ≤ 1048576 := by rw [List.length_map]; exact k0
  refine Ev.bind (toMoves l k0) (Ev.bind (spec_movesOk _) (Ev.bind (toMoves l k0) (Ev.bind (impl_movesOk _) ?_)))
  refine Ev.neg (by simp) ?_
  exact Ev.bind (toMoves l k0) (Ev.bind (eqMoves _ k1) (Ev.pos rfl (Ev.some rfl)))
end Go.Proofs.Ytpdmimlkgmhepaa.Pure
