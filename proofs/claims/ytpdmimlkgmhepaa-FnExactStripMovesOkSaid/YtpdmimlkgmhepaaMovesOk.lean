/- StripMovesOk, the program's and the reference's, is one plain test; no condition. -/
import Derived.Test.YtpdmimlkgmhepaaLoops
import Derived.Test.YtpdmimlkgmhepaaMoveOk
import Derived.Test.YtpdmimlkgmhepaaGspec0StripMovesOk
import Derived.Test.YtpdmimlkgmhepaaGimpl0StripMovesOk
namespace Go.Proofs.Ytpdmimlkgmhepaa.Pure
set_option linter.unusedVariables false
set_option linter.unusedSimpArgs false
open Go.RowKit Go.Proofs.YtpdmimlkgmhepaaW.PrintWords Go.Proofs.Ytpdmimlkgmhepaa.G

/-- The program's moves. -/
abbrev Mv := S54
abbrev z0 : Mv := z54
/-- The move at a place. -/
def at' (l : List Mv) (i : Nat) : Mv := l.getD i z0
theorem rdM (l : List Mv) (i : Nat) : rd_T54 l (i : Int) = at' l i := by simp [rd_T54, at']
theorem rdM_pred (l : List Mv) (i : Nat) (h : 0 < i) : rd_T54 l ((i : Int) - 1) = at' l (i - 1) := by rw [show (i : Int) - 1 = ((i - 1 : Nat) : Int) by omega, rdM]
def mvOk (m : Mv) : Bool := moveOkM m.f0 m.f2 m.f3 m.f4 m.f5
def ltN (a b : ByteArray) : Bool := Op.bytesLess a.toList b.toList
/-- Place i is ok, and above the one ahead. -/
def OkAt (l : List Mv) (i : Nat) : Prop := mvOk (at' l i) = true ∧ (0 < i → ltN (at' l (i - 1)).f0 (at' l i).f0 = true)
instance (l : List Mv) (i : Nat) : Decidable (OkAt l i) := by unfold OkAt; infer_instance
def MovesOk (l : List Mv) : Prop := l.length ≤ 6 ∧ ∀ i, i < l.length → OkAt l i
instance (l : List Mv) : Decidable (MovesOk l) := by unfold MovesOk; infer_instance

theorem spec_mvOk (m : Mv) : Ev (fun k => spec_StripMoveOk.f k m.f0 m.f1 m.f2 m.f3 m.f4 m.f5) (mvOk m) := ⟨10, fun k hk => spec_moveOk _ _ _ _ _ _ k (by omega)⟩
theorem impl_mvOk (m : Mv) : Ev (fun k => impl_StripMoveOk.f k m.f0 m.f1 m.f2 m.f3 m.f4 m.f5) (mvOk m) := ⟨11, fun k hk => impl_moveOk _ _ _ _ _ _ k (by omega)⟩

theorem spec_movesOk (l : List Mv) : Ev (fun k => spec_StripMovesOk.f k l) (decide (MovesOk l)) := by
  unfold spec_StripMovesOk.f
  by_cases h6 : l.length ≤ 6
  · refine Ev.neg (by omega) ?_
    have step : ∀ (i : Nat) (r : Bool), i < l.length → OkAt l i → Ev (fun k => spec_StripMovesOk.l0 k l ((i + 1 : Nat) : Int)) r → Ev (fun k => spec_StripMovesOk.l0 k l (i : Int)) r := by
      intro i r hi ⟨h1, h2⟩ hr
      refine Ev.step (fun _ => spec_StripMovesOk.l0.eq_2 ..) (Ev.pos (by omega) (Ev.pos (by omega) ?_))
      simp only [rdM, wrap_succ hi (show l.length ≤ 1000000000000000000 by omega)]
      refine Ev.bind (spec_mvOk _) (Ev.pos h1 ?_)
      by_cases hp : 0 < i
      · refine Ev.pos (by omega) ?_
        simp only [wrap_eq (x := (i : Int) - 1) (by omega) (by omega), rdM_pred l i hp]
        exact Ev.pos (by omega) (Ev.pos (by omega) (Ev.pos (h2 hp) hr))
      · exact Ev.neg (by omega) hr
    by_cases hall : ∀ i, i < l.length → OkAt l i
    · rw [decide_eq_true (show MovesOk l from ⟨h6, hall⟩)]
      refine ev_yes (n := l.length) (fun i k => spec_StripMovesOk.l0 k l i) hall ?_ (fun i hi h hr => step i _ hi h hr)
      exact Ev.step (fun _ => spec_StripMovesOk.l0.eq_2 ..) (Ev.neg (by omega) (Ev.some rfl))
    · rw [decide_eq_false (fun h : MovesOk l => hall h.2)]
      refine ev_no (n := l.length) (fun i k => spec_StripMovesOk.l0 k l i) hall (fun i hi h hr => step i _ hi h hr) ?_
      intro i hi _ hno
      refine Ev.step (fun _ => spec_StripMovesOk.l0.eq_2 ..) (Ev.pos (by omega) (Ev.pos (by omega) ?_))
      simp only [rdM]
      refine Ev.bind (spec_mvOk _) ?_
      refine Ev.ite (fun h1 => ?_) (fun _ => Ev.some rfl)
      have hp : 0 < i := by
        rcases Nat.eq_zero_or_pos i with e | h
        · exact absurd ⟨h1, fun h => absurd h (by omega)⟩ hno
        · exact h
      refine Ev.pos (by omega) ?_
      simp only [wrap_eq (x := (i : Int) - 1) (by omega) (by omega), rdM_pred l i hp]
      exact Ev.pos (by omega) (Ev.pos (by omega) (Ev.neg (fun h => hno ⟨h1, fun _ => h⟩) (Ev.some rfl)))
  · rw [decide_eq_false (fun h : MovesOk l => h6 h.1)]
    exact Ev.pos (by omega) (Ev.some rfl)

theorem impl_movesOk (l : List Mv) : Ev (fun k => impl_StripMovesOk.f k l) (decide (MovesOk l)) := by
  unfold impl_StripMovesOk.f
  by_cases h6 : l.length ≤ 6
  · refine Ev.neg (by omega) ?_
    have step : ∀ (i : Nat) (r : Bool), i < l.length → OkAt l i → Ev (fun k => impl_StripMovesOk.l0 k l l (l.length : Int) ((i + 1 : Nat) : Int)) r → Ev (fun k => impl_StripMovesOk.l0 k l l (l.length : Int) (i : Int)) r := by
      intro i r hi ⟨h1, h2⟩ hr
      refine Ev.step (fun _ => impl_StripMovesOk.l0.eq_2 ..) (Ev.pos (by omega) (Ev.pos (by omega) (Ev.pos (by omega) ?_)))
      simp only [rdM, wrap_succ hi (show l.length ≤ 1000000000000000000 by omega)]
      refine Ev.bind (impl_mvOk _) (Ev.pos h1 ?_)
      by_cases hp : 0 < i
      · refine Ev.pos (by omega) ?_
        simp only [wrap_eq (x := (i : Int) - 1) (by omega) (by omega), rdM_pred l i hp]
        exact Ev.pos (by omega) (Ev.pos (by omega) (Ev.pos (h2 hp) hr))
      · exact Ev.neg (by omega) hr
    by_cases hall : ∀ i, i < l.length → OkAt l i
    · rw [decide_eq_true (show MovesOk l from ⟨h6, hall⟩)]
      refine ev_yes (n := l.length) (fun i k => impl_StripMovesOk.l0 k l l (l.length : Int) i) hall ?_ (fun i hi h hr => step i _ hi h hr)
      exact Ev.step (fun _ => impl_StripMovesOk.l0.eq_2 ..) (Ev.neg (by omega) (Ev.some rfl))
    · rw [decide_eq_false (fun h : MovesOk l => hall h.2)]
      refine ev_no (n := l.length) (fun i k => impl_StripMovesOk.l0 k l l (l.length : Int) i) hall (fun i hi h hr => step i _ hi h hr) ?_
      intro i hi _ hno
      refine Ev.step (fun _ => impl_StripMovesOk.l0.eq_2 ..) (Ev.pos (by omega) (Ev.pos (by omega) (Ev.pos (by omega) ?_)))
      simp only [rdM]
      refine Ev.bind (impl_mvOk _) ?_
      refine Ev.ite (fun h1 => ?_) (fun _ => Ev.some rfl)
      have hp : 0 < i := by
        rcases Nat.eq_zero_or_pos i with e | h
        · exact absurd ⟨h1, fun h => absurd h (by omega)⟩ hno
        · exact h
      refine Ev.pos (by omega) ?_
      simp only [wrap_eq (x := (i : Int) - 1) (by omega) (by omega), rdM_pred l i hp]
      exact Ev.pos (by omega) (Ev.pos (by omega) (Ev.neg (fun h => hno ⟨h1, fun _ => h⟩) (Ev.some rfl)))
  · rw [decide_eq_false (fun h : MovesOk l => h6 h.1)]
    exact Ev.pos (by omega) (Ev.some rfl)
end Go.Proofs.Ytpdmimlkgmhepaa.Pure
