/- The laws' helpers on moves: a copy is the list, turned move by move; equal lists are equal; sizes; condition: what the laws' own guard lets by. -/
import Derived.Test.YtpdmimlkgmhepaaCopy
import Derived.Test.YtpdmimlkgmhepaaMovesOk
import Derived.Test.YtpdmimlkgmhepaaGlaws0szStripMoveS
import Derived.Test.YtpdmimlkgmhepaaGlaws0toStripMoveS
import Derived.Test.YtpdmimlkgmhepaaGlaws0eqStripMoveS
namespace Go.Proofs.Ytpdmimlkgmhepaa.Pure
set_option linter.unusedVariables false
set_option linter.unusedSimpArgs false
open Go.RowKit Go.Proofs.YtpdmimlkgmhepaaW.PrintWords Go.Proofs.Ytpdmimlkgmhepaa.G
/-- The laws' moves. -/
abbrev Lm := S71
def LmWf (x : Lm) : Prop := x.f0.size ≤ maxLen ∧ (Lit.int .i64 x.f2).wf = true ∧ (Lit.int .i64 x.f3).wf = true ∧ (Lit.int .i64 x.f4).wf = true ∧ (Lit.int .i64 x.f5).wf = true
def toM (x : Lm) : Mv := ⟨x.f0, x.f1, x.f2, x.f3, x.f4, x.f5⟩
def lat (l : List Lm) (i : Nat) : Lm := l.getD i z71
theorem rdL (l : List Lm) (i : Nat) : rd_T71 l (i : Int) = lat l i := by simp [rd_T71, lat]

theorem toMoves (l : List Lm) (hl : l.length ≤ 1048576) : Ev (fun k => laws_toStripMoveS.f k l) (l.map toM) := by
  unfold laws_toStripMoveS.f
  refine Ev.pos (by omega) (Ev.pos (by omega) ?_)
  simp only [Int.toNat_natCast]
  have key : ∀ d i (s : List Mv), i + d = l.length → s.length = l.length → (∀ j, j < i → s.getD j z0 = toM (lat l j)) → Ev (fun k => laws_toStripMoveS.l0 k l s i) (l.map toM) := by
    intro d
    induction d with
    | zero =>
      intro i s hi hs hp
      refine Ev.step (fun _ => laws_toStripMoveS.l0.eq_2 ..) (Ev.neg (by omega) (Ev.some ?_))
      refine list_eq_getD z0 (by rw [hs, List.length_map]) fun j hj => ?_
      rw [hp j (by omega)]
      simp [List.getD_eq_getElem?_getD, lat, List.getElem?_eq_getElem (show j < l.length by omega)]
    | succ d ih =>
      intro i s hi hs hp
      refine Ev.step (fun _ => laws_toStripMoveS.l0.eq_2 ..) (Ev.pos (by omega) (Ev.pos (by omega) ?_))
      simp only [rdL, laws_toStripMove.f, Option.bind_some, Int.toNat_natCast, wrap_succ (show i < l.length by omega) (show l.length ≤ 1000000000000000000 by omega)]
      refine Ev.pos (by omega) ?_
      obtain ⟨h1, h2⟩ := copy_step (fun j => toM (lat l j)) z0 hs hp (show i < l.length by omega)
      exact ih (i + 1) _ (by omega) h1 h2
  exact key l.length 0 _ (by omega) (by simp) (fun j hj => absurd hj (by omega))

theorem eqMove_self (m : Mv) : laws_eqStripMove.f m.f0 m.f1 m.f2 m.f3 m.f4 m.f5 m.f0 m.f1 m.f2 m.f3 m.f4 m.f5 = some true := by
  unfold laws_eqStripMove.f
  simp
theorem eqMoves (a : List Mv) (hl : a.length ≤ 1048576) : Ev (fun k => laws_eqStripMoveS.f k a a) true := by
  unfold laws_eqStripMoveS.f
  refine Ev.pos rfl ?_
  refine ev_yes (n := a.length) (P := fun _ => True) (fun i k => laws_eqStripMoveS.l0 k a a i) (fun _ _ => trivial) ?_ ?_
  · exact Ev.step (fun _ => laws_eqStripMoveS.l0.eq_2 ..) (Ev.neg (by omega) (Ev.some rfl))
  · intro i hi _ hr
    refine Ev.step (fun _ => laws_eqStripMoveS.l0.eq_2 ..) (Ev.pos (by omega) (Ev.pos (by omega) (Ev.pos (by omega) ?_)))
    simp only [eqMove_self, Option.bind_some]
    refine Ev.pos trivial ?_
    simpa only [wrap_succ hi (show a.length ≤ 1000000000000000000 by omega)] using hr

/-- What the laws' guard says of what it lets by. -/
theorem szMoves (l : List Lm) (a : Int) (ha : 0 ≤ a) (ha' : a ≤ 1048576) (hl : l.length ≤ maxLen) (hw : ∀ x ∈ l, LmWf x) :
    ∃ t : Int, Ev (fun k => laws_szStripMoveS.f k l a) t ∧ t ≤ 1048576 ∧ (0 ≤ t → (l.length : Int) ≤ a ∧ ∀ i, i < l.length → (lat l i).f0.size ≤ 1048576) := by
  unfold maxLen at hl
  unfold laws_szStripMoveS.f
  simp only [wrap_eq (x := a - (l.length : Int)) (by omega) (by omega)]
  by_cases h : a - (l.length : Int) < 0
  · exact ⟨-1, Ev.pos h (Ev.some rfl), by omega, fun h => absurd h (by omega)⟩
  · have key : ∀ d (i : Nat) (a : Int), 0 ≤ a → a ≤ 1048576 → i + d = l.length → (∀ j, j < i → (lat l j).f0.size ≤ 1048576) →
        ∃ t : Int, Ev (fun k => laws_szStripMoveS.l0 k l a (i : Int)) t ∧ t ≤ 1048576 ∧ (0 ≤ t → ∀ i, i < l.length → (lat l i).f0.size ≤ 1048576) := by
      intro d
      induction d with
      | zero =>
        intro i a h0 h1 hi hp
        exact ⟨a, Ev.step (fun _ => laws_szStripMoveS.l0.eq_2 ..) (Ev.neg (by omega) (Ev.some rfl)), h1, fun _ j hj => hp j (by omega)⟩
      | succ d ih =>
        intro i a h0 h1 hi hp
        have hx : LmWf (lat l i) := by
          unfold lat
          rw [List.getD_eq_getElem?_getD, List.getElem?_eq_getElem (show i < l.length by omega)]
          exact hw _ (List.getElem_mem _)
        have hn := hx.1
        unfold maxLen at hn
        by_cases hs : a - ((lat l i).f0.size : Int) < 0
        · refine ⟨-1, Ev.step (fun _ => laws_szStripMoveS.l0.eq_2 ..) (Ev.pos (by omega) (Ev.pos (by omega) ?_)), by omega, fun h => absurd h (by omega)⟩
          simp only [rdL, laws_szStripMove.f, wrap_eq (x := a - ((lat l i).f0.size : Int)) (by omega) (by omega)]
          simp only [if_pos hs, Option.bind_some]
          exact Ev.pos (by decide) (Ev.some rfl)
        · obtain ⟨t, h2, h3, h4⟩ := ih (i + 1) (a - (lat l i).f0.size) (by omega) (by omega) (by omega) (fun j hj => by
            by_cases e : j = i
            · subst e; omega
            · exact hp j (by omega))
          refine ⟨t, Ev.step (fun _ => laws_szStripMoveS.l0.eq_2 ..) (Ev.pos (by omega) (Ev.pos (by omega) ?_)), h3, h4⟩
          simp only [rdL, laws_szStripMove.f, wrap_eq (x := a - ((lat l i).f0.size : Int)) (by omega) (by omega), wrap_succ (show i < l.length by omega) (show l.length ≤ 1000000000000000000 by omega)]
          simp only [if_neg hs, Option.bind_some]
          exact h2
    obtain ⟨t, h2, h3, h4⟩ := key l.length 0 (a - (l.length : Int)) (by omega) (by omega) (by omega) (fun j hj => absurd hj (by omega))
    exact ⟨t, Ev.neg h h2, h3, fun ht => ⟨by omega, h4 ht⟩⟩
end Go.Proofs.Ytpdmimlkgmhepaa.Pure
