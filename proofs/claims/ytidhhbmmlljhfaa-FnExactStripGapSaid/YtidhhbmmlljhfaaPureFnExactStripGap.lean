/- FnExactStripGap, the pure statement: both gaps are the same number; no condition but the arguments' kinds. -/
import Derived.Test.YtidhhbmmlljhfaaBase
import Derived.Test.YtidhhbmmlljhfaaG
namespace Go.Proofs.Ytidhhbmmlljhfaa.Pure
open Go.RowKit Go.Proofs.YtidhhbmmlljhfaaW.PrintWords Go.Proofs.Ytidhhbmmlljhfaa.G

/-- The gap, plainly. -/
def gapM (l : Bool) (a b : Int) : Int := (if l = true then 2 else 1) + (if 1 ≤ a ∧ a ≤ 3 ∧ 1 ≤ b ∧ b ≤ 3 ∧ b < a then a - b else 0)

theorem spec_gap (n1 n2 : ByteArray) (b1 b2 : Bool) (w1 e1 l1 p1 w2 e2 l2 p2 : Int) (k : Nat) : spec_StripGap.f (k + 1) n1 b1 w1 e1 l1 p1 n2 b2 w2 e2 l2 p2 = some (gapM b1 w1 w2) := by
  simp only [spec_StripGap.f, spec_StripGap.j0, spec_l1In.f, gapM]
  cases b1 <;> (repeat' split) <;> simp_all [wrap64] <;> (repeat' split) <;> omega

theorem impl_gap (n1 n2 : ByteArray) (b1 b2 : Bool) (w1 e1 l1 p1 w2 e2 l2 p2 : Int) (k : Nat) : impl_StripGap.f (k + 1) n1 b1 w1 e1 l1 p1 n2 b2 w2 e2 l2 p2 = some (gapM b1 w1 w2) := by
  simp only [impl_StripGap.f, impl_StripGap.j0, impl_in.f, gapM]
  cases b1 <;> (repeat' split) <;> simp_all [wrap64] <;> (repeat' split) <;> omega

theorem FnExactStripGap (n1 : ByteArray) (b1 : Bool) (w1 e1 l1 p1 : Int) (_ : n1.size ≤ maxLen) (_ : (Lit.int .i64 w1).wf = true) (_ : (Lit.int .i64 e1).wf = true) (_ : (Lit.int .i64 l1).wf = true) (_ : (Lit.int .i64 p1).wf = true)
    (n2 : ByteArray) (b2 : Bool) (w2 e2 l2 p2 : Int) (_ : n2.size ≤ maxLen) (_ : (Lit.int .i64 w2).wf = true) (_ : (Lit.int .i64 e2).wf = true) (_ : (Lit.int .i64 l2).wf = true) (_ : (Lit.int .i64 p2).wf = true) :
    ∃ k, laws_FnExactStripGap.f k n1 b1 w1 e1 l1 p1 n2 b2 w2 e2 l2 p2 = some true := by
  refine ⟨1, ?_⟩
  simp only [laws_FnExactStripGap.f, laws_szStripMove.f, laws_toStripMove.f, Option.bind_some]
  have h1 := spec_gap n1 n2 b1 b2 w1 e1 l1 p1 w2 e2 l2 p2 0
  have h2 := impl_gap n1 n2 b1 b2 w1 e1 l1 p1 w2 e2 l2 p2 0
  simp only [Nat.zero_add] at h1 h2
  simp only [h1, h2, Option.bind_some, if_true]
  split <;> simp <;> (try split) <;> simp
end Go.Proofs.Ytidhhbmmlljhfaa.Pure
