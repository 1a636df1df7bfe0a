/- StripMoveOk, the program's and the reference's, is one plain test; condition: enough rounds. -/
import Derived.Test.YtpdmimlkgmhepaaBase
import Derived.Test.YtpdmimlkgmhepaaGspec0StripMoveOk
import Derived.Test.YtpdmimlkgmhepaaGimpl0StripMoveOk
namespace Go.Proofs.Ytpdmimlkgmhepaa.Pure
set_option linter.unusedVariables false
set_option linter.unusedSimpArgs false
open Go.RowKit Go.Proofs.YtpdmimlkgmhepaaW.PrintWords Go.Proofs.Ytpdmimlkgmhepaa.G

theorem spec_in {α : Type} (a b c : Int) (f : Bool → Option α) : (spec_l1In.f a b c).bind f = if b ≤ a ∧ a ≤ c then f true else f false := by
  unfold spec_l1In.f
  by_cases h : b ≤ a
  · by_cases h2 : a ≤ c <;> simp [h, h2]
  · simp [h]
theorem impl_in {α : Type} (a b c : Int) (f : Bool → Option α) : (impl_in.f a b c).bind f = if b ≤ a ∧ a ≤ c then f true else f false := by
  unfold impl_in.f
  by_cases h : b ≤ a
  · by_cases h2 : a ≤ c <;> simp [h, h2]
  · simp [h]
def okB (c : Int) : Bool := decide (97 ≤ c ∧ c ≤ 122 ∨ 48 ≤ c ∧ c ≤ 57 ∨ c = 45)
def allB (s : ByteArray) : Nat → Int → Bool
  | 0, _ => true
  | d + 1, i => okB (bt s i) && allB s d (i + 1)
theorem allB_succ (s : ByteArray) (d : Nat) (i : Int) : allB s (d + 1) i = (okB (bt s i) && allB s d (i + 1)) := rfl
/-- What a move's other parts must be. -/
def MoveP (n : Nat) (w e l p : Int) : Prop := 1 ≤ n ∧ n ≤ 8 ∧ 1 ≤ w ∧ w ≤ 3 ∧ 0 ≤ e ∧ e ≤ l ∧ l ≤ 10000 ∧ (p = -1 ∨ e ≤ p ∧ p ≤ l)
instance (n : Nat) (w e l p : Int) : Decidable (MoveP n w e l p) := by unfold MoveP; infer_instance
def moveOkM (s : ByteArray) (w e l p : Int) : Bool := if MoveP s.size w e l p then allB s s.size 0 else false
theorem moveOkM_pos {s : ByteArray} {w e l p : Int} (h : MoveP s.size w e l p) : moveOkM s w e l p = allB s s.size 0 := if_pos h
theorem moveOkM_neg {s : ByteArray} {w e l p : Int} (h : ¬ MoveP s.size w e l p) : moveOkM s w e l p = false := if_neg h

theorem ite_okB {α : Type} (c : Int) (A B : α) : (if c ≥ 97 then (if c ≤ 122 then A else (if c ≥ 48 then (if c ≤ 57 then A else (if c = 45 then A else B)) else (if c = 45 then A else B))) else (if c ≥ 48 then (if c ≤ 57 then A else (if c = 45 then A else B)) else (if c = 45 then A else B))) = if okB c = true then A else B := by
  by_cases h : okB c = true
  · rw [if_pos h]
    simp only [okB, decide_eq_true_eq] at h
    (repeat' split) <;> first | rfl | (exfalso; omega)
  · rw [if_neg h]
    simp only [okB, decide_eq_true_eq] at h
    (repeat' split) <;> first | rfl | (exfalso; omega)

theorem spec_name_l (s : ByteArray) (hs : s.size ≤ 8) (d : Nat) : ∀ (k : Nat) (i : Int), 0 ≤ i → (s.size : Int) - i = d → d < k → spec_l1NameOk.l0 k s i = some (allB s d i) := by
  induction d with
  | zero =>
    intro k i h0 hd hk
    obtain ⟨k, rfl⟩ : ∃ m, k = m + 1 := ⟨k - 1, by omega⟩
    simp only [spec_l1NameOk.l0]
    rw [if_neg (by omega)]; rfl
  | succ d ih =>
    intro k i h0 hd hk
    obtain ⟨k, rfl⟩ : ∃ m, k = m + 1 := ⟨k - 1, by omega⟩
    have ih' := ih k (i + 1) (by omega) (by omega) (by omega)
    simp only [spec_l1NameOk.l0]
    rw [if_pos (show i < (s.size : Int) by omega), if_pos h0, wrap_eq (x := i + 1) (by omega) (by omega), ih', ite_okB, allB_succ]
    cases okB (bt s i) <;> rfl

theorem spec_moveOk (s : ByteArray) (b : Bool) (w e l p : Int) (k : Nat) (hk : 9 < k) : spec_StripMoveOk.f k s b w e l p = some (moveOkM s w e l p) := by
  simp only [spec_StripMoveOk.f, spec_l1NameOk.f, spec_in, if_true, Bool.false_eq_true, if_false]
  by_cases hs : 1 ≤ s.size ∧ s.size ≤ 8
  · rw [if_pos (show 1 ≤ (s.size : Int) ∧ (s.size : Int) ≤ 8 by omega), spec_name_l s hs.2 s.size k 0 (by omega) (by omega) (by omega)]
    simp only [Option.bind_some]
    by_cases hm : MoveP s.size w e l p
    · rw [moveOkM_pos hm]
      unfold MoveP at hm
      cases allB s s.size 0 <;> simp only [if_true, Bool.false_eq_true, if_false] <;> (repeat' split) <;> first | rfl | (exfalso; omega)
    · rw [moveOkM_neg hm]
      unfold MoveP at hm
      cases allB s s.size 0 <;> simp only [if_true, Bool.false_eq_true, if_false] <;> (repeat' split) <;> first | rfl | (exfalso; omega)
  · rw [if_neg (show ¬ (1 ≤ (s.size : Int) ∧ (s.size : Int) ≤ 8) by omega), moveOkM_neg (fun h => hs ⟨h.1, h.2.1⟩)]
    rfl

def promM (e l p : Int) : Bool := if p = -1 ∨ e ≤ p ∧ p ≤ l then true else false
theorem impl_name_l (s : ByteArray) (b : Bool) (w e l p : Int) (hs : s.size ≤ 8) (d : Nat) : ∀ (k : Nat) (i : Int), 0 ≤ i → (s.size : Int) - i = d → d < k → impl_StripMoveOk.l0 k i s b w e l p = some (allB s d i && promM e l p) := by
  induction d with
  | zero =>
    intro k i h0 hd hk
    obtain ⟨k, rfl⟩ : ∃ m, k = m + 1 := ⟨k - 1, by omega⟩
    simp only [impl_StripMoveOk.l0, impl_in, allB, promM, Bool.true_and]
    rw [if_neg (show ¬ i < (s.size : Int) by omega)]
    (repeat' split) <;> first | rfl | (exfalso; omega)
  | succ d ih =>
    intro k i h0 hd hk
    obtain ⟨k, rfl⟩ : ∃ m, k = m + 1 := ⟨k - 1, by omega⟩
    have ih' := ih k (i + 1) (by omega) (by omega) (by omega)
    simp only [impl_StripMoveOk.l0]
    rw [if_pos (show i < (s.size : Int) by omega), if_pos h0, wrap_eq (x := i + 1) (by omega) (by omega), ih', ite_okB, allB_succ]
    cases okB (bt s i) <;> rfl

theorem impl_moveOk (s : ByteArray) (b : Bool) (w e l p : Int) (k : Nat) (hk : 10 < k) : impl_StripMoveOk.f k s b w e l p = some (moveOkM s w e l p) := by
  obtain ⟨k, rfl⟩ : ∃ m, k = m + 1 := ⟨k - 1, by omega⟩
  simp only [impl_StripMoveOk.f, impl_StripMoveOk.j0, impl_in, if_true, Bool.false_eq_true, if_false, decide_eq_true_eq]
  by_cases hs : 1 ≤ s.size ∧ s.size ≤ 8
  · rw [if_pos (show 1 ≤ (s.size : Int) ∧ (s.size : Int) ≤ 8 by omega), impl_name_l s b w e l p hs.2 s.size k 0 (by omega) (by omega) (by omega)]
    unfold promM
    by_cases hm : MoveP s.size w e l p
    · rw [moveOkM_pos hm]
      unfold MoveP at hm
      cases allB s s.size 0 <;> (repeat' split) <;> first | rfl | (exfalso; omega)
    · rw [moveOkM_neg hm]
      unfold MoveP at hm
      cases allB s s.size 0 <;> (repeat' split) <;> first | rfl | (exfalso; omega)
  · rw [if_neg (show ¬ (1 ≤ (s.size : Int) ∧ (s.size : Int) ≤ 8) by omega), moveOkM_neg (fun h => hs ⟨h.1, h.2.1⟩)]
end Go.Proofs.Ytpdmimlkgmhepaa.Pure
