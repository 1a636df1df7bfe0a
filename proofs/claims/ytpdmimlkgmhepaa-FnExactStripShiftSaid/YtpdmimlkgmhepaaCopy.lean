/- The laws' helpers on whole numbers: a copy is the list, equal lists are equal, what was marked is held; condition: at most 2^20 elements. -/
import Derived.Test.YtpdmimlkgmhepaaLoops
import Derived.Test.YtpdmimlkgmhepaaGlaws0toIntS
import Derived.Test.YtpdmimlkgmhepaaGlaws0eqIntS
namespace Go.Proofs.Ytpdmimlkgmhepaa.Pure
set_option linter.unusedVariables false
set_option linter.unusedSimpArgs false
open Go.RowKit Go.Proofs.YtpdmimlkgmhepaaW.PrintWords Go.Proofs.Ytpdmimlkgmhepaa.G

theorem copy_step {α : Type} (f : Nat → α) {n i : Nat} {s : List α} (d : α) (hl : s.length = n) (hs : ∀ j, j < i → s.getD j d = f j) (hi : i < n) : (s.set i (f i)).length = n ∧ ∀ j, j < i + 1 → (s.set i (f i)).getD j d = f j := by
  refine ⟨by rw [List.length_set]; exact hl, fun j hj => ?_⟩
  by_cases e : j = i
  · subst e
    rw [List.getD_eq_getElem?_getD, List.getElem?_set_self (by omega)]
    rfl
  · rw [List.getD_eq_getElem?_getD, List.getElem?_set_ne (fun h => e h.symm), ← List.getD_eq_getElem?_getD]
    exact hs j (by omega)
theorem list_eq_getD {α : Type} {a b : List α} (d : α) (hl : a.length = b.length) (h : ∀ j, j < a.length → a.getD j d = b.getD j d) : a = b := by
  refine List.ext_getElem hl fun j h1 h2 => ?_
  have := h j h1
  rw [List.getD_eq_getElem?_getD, List.getD_eq_getElem?_getD, List.getElem?_eq_getElem h1, List.getElem?_eq_getElem h2] at this
  exact this

theorem toInts (l : List Int) (hl : l.length ≤ 1048576) : Ev (fun k => laws_toIntS.f k l) l := by
  unfold laws_toIntS.f
  refine Ev.pos (by omega) (Ev.pos (by omega) ?_)
  simp only [Int.toNat_natCast]
  have key : ∀ d i (s : List Int), i + d = l.length → s.length = l.length → (∀ j, j < i → s.getD j 0 = l.getD j 0) → Ev (fun k => laws_toIntS.l0 k l s i) l := by
    intro d
    induction d with
    | zero =>
      intro i s hi hs hp
      refine Ev.step (fun _ => laws_toIntS.l0.eq_2 ..) (Ev.neg (by omega) (Ev.some ?_))
      exact list_eq_getD 0 hs fun j hj => hp j (by omega)
    | succ d ih =>
      intro i s hi hs hp
      refine Ev.step (fun _ => laws_toIntS.l0.eq_2 ..) (Ev.pos (by omega) (Ev.pos (by omega) (Ev.pos (by omega) ?_)))
      simp only [rd_nat, Int.toNat_natCast, wrap_succ (show i < l.length by omega) (show l.length ≤ 1000000000000000000 by omega)]
      obtain ⟨h1, h2⟩ := copy_step (fun j => l.getD j 0) 0 hs hp (show i < l.length by omega)
      exact ih (i + 1) _ (by omega) h1 h2
  exact key l.length 0 _ (by omega) (by simp) (fun j hj => absurd hj (by omega))

theorem eqInts (a : List Int) (hl : a.length ≤ 1048576) : Ev (fun k => laws_eqIntS.f k a a) true := by
  unfold laws_eqIntS.f
  refine Ev.pos rfl ?_
  refine ev_yes (n := a.length) (P := fun _ => True) (fun i k => laws_eqIntS.l0 k a a i) (fun _ _ => trivial) ?_ ?_
  · exact Ev.step (fun _ => laws_eqIntS.l0.eq_2 ..) (Ev.neg (by omega) (Ev.some rfl))
  · intro i hi _ hr
    refine Ev.step (fun _ => laws_eqIntS.l0.eq_2 ..) (Ev.pos (by omega) (Ev.pos (by omega) (Ev.pos (by omega) (Ev.pos rfl ?_))))
    simpa only [wrap_succ hi (show a.length ≤ 1000000000000000000 by omega)] using hr
end Go.Proofs.Ytpdmimlkgmhepaa.Pure
